/-
  Regions that draw their order: whatever the order, the same.
-/
import Derived.Test.YtfpoihibfajhlaaAmDraw3
import Derived.OrdersIn
import Derived.Test.YtfpoihibfajhlaaAmOps10
import Derived.ProofKit
import Derived.KernelRfl
import Derived.Lib.Bytealg
import Derived.Test.YtfpoihibfajhlaaAmOps2
import Derived.Shelf.Strings.OnBuilder
import Derived.Sort.EncStr
import Derived.Sort.Grow
import Derived.Sort.Row
import Derived.Lib.SlicesCompact
set_option linter.all false
set_option linter.unusedVariables false
set_option linter.unusedSimpArgs false
set_option linter.unusedSectionVars false
namespace Go.Proofs.Ytfpoihibfajhlaa.Am
section
variable {rd:Option Nat} {P:Program} {gt:Nat→Option (List AV)} {prog:Nat→Option Fun} {self:Self}
theorem D7 {pop:Bool×Nat×String} {n:Nat} {ops:Array Oper}:∀ {l:List Oper} {cl:List Op},Di P gt pop n ops l=some cl→cl.length=l.length∧∀ (i:Nat) (o:Oper),l[i]? = some o →
    ∃ c,cl[i]? = some c∧c.dst=o.dst∧c.op=(GR P gt pop o).getD .bad∧J9 n o.dst=true∧(match o.guard with
     | none=>c.guard=none
     | some (j,want)=>∃ oj d,ops[j]? = some oj∧oj.dst=some d∧d < n∧c.guard=some (d,want))
 | [],cl,h=>by simp only [Di] at h; cases h; exact ⟨rfl,fun i o hi=>by simp at hi⟩
 | o :: l,cl,hc=>by
   simp only [Di] at hc
   split at hc<;>try (cases hc; done)
   rename_i r hr
   split at hc<;>try (cases hc; done)
   rename_i hd
   obtain ⟨k1,k2⟩:=D7 hr
   obtain ⟨gd,hcl,hgd⟩:∃ gd,cl=⟨o.dst,(GR P gt pop o).getD .bad,gd⟩::r∧(match o.guard with
    | none=>gd=none
    | some (j,want)=>∃ oj d,ops[j]? = some oj∧oj.dst=some d∧d < n∧gd=some (d,want)):=by
    cases hg:o.guard with
    | none=>simp only [hg] at hc; cases hc; exact ⟨none,rfl,rfl⟩
    | some jw =>
      obtain ⟨j,want⟩:=jw
      simp only [hg] at hc
      split at hc<;>try (cases hc; done)
      rename_i oj hoj
      split at hc<;>try (cases hc; done)
      rename_i d hdst
      split at hc<;>try (cases hc; done)
      rename_i hdn
      cases hc
      exact ⟨_,rfl,oj,d,hoj,hdst,hdn,rfl⟩
   subst hcl
   refine ⟨by simp [k1],fun i o' hi=>?_⟩
   cases i with
   | zero =>
     simp only [List.getElem?_cons_zero,Option.some.injEq] at hi
     subst hi
     exact ⟨_,rfl,rfl,rfl,hd,hgd⟩
   | succ i =>
     simp only [List.getElem?_cons_succ] at hi ⊢
     exact k2 i o' hi
theorem Hy {f f':Nat→Bool}:∀ {l:List Nat} {i:Nat},i∈l→(∀ x,f' x=true→f x=true)→f i=true→f' i=false→l.countP f' < l.countP f
 | [],i,h,_,_,_=>by simp at h
 | x :: l,i,h,hm,h1,h2=>by
   have hle:l.countP f'≤l.countP f:=List.countP_mono_left fun x _ hx=>hm x hx
   rw [List.countP_cons,List.countP_cons]
   rcases List.mem_cons.1 h with rfl | h
   · rw [h1,h2]; simp; omega
   · have:=Hy h hm h1 h2
     have hx:=hm x
     cases hf:f' x with
     | true=>rw [hx hf]; simp; omega
     | false=>cases f x<;>simp<;>omega
def cnt (n:Nat) (listed:Array Bool):Nat:=(List.range n).countP fun i=>!listed.getD i true
theorem F9 {ops:Array Oper} {listed:Array Bool} {i:Nat} (h:i∈Region.ready .any ops listed) (hsz:listed.size=ops.size) :
    ∃ o,ops[i]? = some o∧listed[i]? = some false∧∀ ed∈o.after.toList,Region.binds .any ed=true→listed[ed.on]? = some true:=by
 unfold Region.ready at h
 rw [List.mem_filter,List.mem_range,Bool.and_eq_true] at h
 obtain ⟨h1,h2,h3⟩:=h
 have ho:=Array.getElem?_eq_getElem h1
 refine ⟨ops[i],ho,?_,fun ed hed hb=>?_⟩
 · have:i < listed.size:=by omega
   rw [Array.getElem?_eq_getElem this]
   rw [Array.getD_eq_getD_getElem?,Array.getElem?_eq_getElem this] at h2
   simpa using h2
 · rw [ho] at h3
   simp only [Option.map_some,Option.getD_some] at h3
   have:=(Array.all_eq_true_iff_forall_mem.1 h3) ed (by simpa using hed)
   rw [hb] at this
   simp only [Bool.not_true,Bool.false_or,Array.getD_eq_getD_getElem?] at this
   cases hg:listed[ed.on]? with
   | none=>rw [hg] at this; simp at this
   | some b=>rw [hg] at this; simpa using this
theorem HB {ops:Array Oper} {listed:Array Bool} (hb:Dd 0 ops.toList=true) (hsz:listed.size=ops.size) (h:Region.ready .any ops listed=[]):∀ i,i < ops.size→listed[i]? = some true:=by
 intro i
 induction i using Nat.strongRecOn with
 | _ i ih =>
   intro hi
   have hi':i < listed.size:=by omega
   cases hl:listed[i]? with
   | none=>rw [Array.getElem?_eq_getElem hi'] at hl; cases hl
   | some b =>
     cases b with
     | true=>rfl
     | false =>
       exfalso
       have : i∈Region.ready .any ops listed:=by
        unfold Region.ready
        rw [List.mem_filter,List.mem_range,Bool.and_eq_true]
        refine ⟨hi,?_,?_⟩
        · rw [Array.getD_eq_getD_getElem?,hl]; rfl
        · rw [Array.getElem?_eq_getElem hi]
          simp only [Option.map_some,Option.getD_some]
          refine Array.all_eq_true_iff_forall_mem.2 fun ed hed=>?_
          cases hbd:Region.binds .any ed with
          | false=>rfl
          | true =>
            have hlt:=EO hb i ops[i] (by simp [hi]) ed (by simpa using hed) hbd
            rw [Array.getD_eq_getD_getElem?,ih ed.on (by omega) (by omega)]; rfl
       rw [h] at this; cases this
def NN (P:Program) (gt:Nat→Option (List AV)) (ops:Array Oper) (cl:List Op) (E:Nat→Tr) (S:Nat→St) (g:G) (s:St) (w:World) (a:Act) (listed:Array Bool) (a1:Act) (w1:World):Prop :=
 (∃ gL eL sL,Inv (CRof P gt) gL sL w1∧Le g s w gL sL w1∧VT gL sL w1 eL a1.tmps∧Esc s sL∧Mid cl E S (fun j=>listed[j]? = some true) eL sL)∧a1.tmps.size=a.tmps.size∧a1.defers=a.defers ∧
 ∀ (j:Nat),listed[j]? = some true→∀ (o:Oper),ops[j]? = some o→∀ ed∈o.after.toList,Region.binds .any ed=true→listed[ed.on]? = some true
theorem KP {ops:Array Oper} {cl:List Op} {E:Nat→Tr} {S:Nat→St} {pm:List Nat} {win:Nat→Nat×Nat} {g:G} {s:St} {w w1:World} {a a1:Act} {listed:Array Bool} (hcan:Canon self cl E S pm win) (hlen:cl.length=ops.size)
    (h:NN P gt ops cl E S g s w a listed a1 w1) (hall:∀ i,i < ops.size→listed[i]? = some true) (hsz:listed.size=ops.size):GH P gt g s w a (E cl.length) (S cl.length) a1 w1:=by
 obtain ⟨⟨gL,eL,sL,hI,hL,hT,hE,hM⟩,h2,h3,_⟩:=h
 have hs:sL=S cl.length:=hM.state _ (Nat.le_refl _) fun j c hc _=>by
  have hj:=(List.getElem?_eq_some_iff.1 hc).1
  exact ⟨fun _=>hall j (by omega),fun _=>hj⟩
 subst hs
 refine ⟨h2,h3,gL,hI,hL,⟨hT.1,fun t=>?_⟩,hE⟩
 have:eL.get t=(E cl.length).get t:=by
  by_cases hw:∃ (j:Nat) (d:Op),cl[j]? = some d∧d.dst=some t
  · obtain ⟨j,d,hd,hdt⟩:=hw
    exact hM.done t j d (hall j (by have:=(List.getElem?_eq_some_iff.1 hd).1; omega)) hd hdt
  · rw [hM.rest t fun j d _ hd hdt=>hw ⟨j,d,hd,hdt⟩]
    exact (hcan.same (Nat.zero_le _) (Nat.le_refl _) fun j d _ _ hd hdt=>hw ⟨j,d,hd,hdt⟩).symm
 rw [← this]
 exact hT.2 t
theorem BI {ops:Array Oper} {listed:Array Bool} {i:Nat} (hsz:listed.size=ops.size) (hi:i < ops.size) (j:Nat):(listed.setIfInBounds i true)[j]? = some true↔(listed[j]? = some true∨j=i):=by
 rw [Array.getElem?_setIfInBounds]
 by_cases h:i=j
 · subst h
   rw [if_pos rfl,if_pos (by omega)]
   simp
 · rw [if_neg h]
   constructor
   · exact .inl
   · rintro (h' | h')
     · exact h'
     · exact absurd h'.symm h
theorem Mid.congr {cl:List Op} {E:Nat→Tr} {S:Nat→St} {L L':Nat→Prop} {eL:Tr} {sL:St} (h:∀ j,L j↔L' j) (m:Mid cl E S L eL sL):Mid cl E S L' eL sL :=
 ⟨fun t j c hL=>m.done t j c ((h j).2 hL),fun t hn=>m.rest t fun j c hL=>hn j c ((h j).1 hL),fun k hk hh=>m.state k hk fun j c hc hj=>by rw [hh j c hc hj,h j]⟩
theorem anyD (hS:SelfOk P gt self) (hN:Bq P) (hX:Ctx P gt prog) {pop:Bool×Nat×String} {n:Nat} {ops:Array Oper} {cl:List Op} (hcl:Di P gt pop n ops ops.toList=some cl) (hb:Dd 0 ops.toList=true)
    {E:Nat→Tr} {S:Nat→St} {win:Nat→Nat×Nat} (hcan:Canon self cl E S (Aw ops.toList []) win) {g:G} {s:St} {w:World} {a:Act} (hn:a.tmps.size=n) (hG:GT gt g w) {Q:Exit→Act→World→Prop}
    (hQ:∀ a' w',GH P gt g s w a (E cl.length) (S cl.length) a' w'→Q .normal a' w') :
    ∀ (fuel:Nat) (listed:Array Bool) (a1:Act) (w1:World),listed.size=ops.size→cnt ops.size listed≤fuel→NN P gt ops cl E S g s w a listed a1 w1→wpAnyIn (Ee rd) 0 P .any ops Q fuel listed a1 w1:=by
 obtain ⟨hlen,hget⟩:=D7 hcl
 have hlen':cl.length=ops.size:=by rw [hlen]; simp
 have hend:∀ (listed:Array Bool) (a1:Act) (w1:World),listed.size=ops.size→NN P gt ops cl E S g s w a listed a1 w1→Region.ready .any ops listed=[]→Q .normal a1 w1:=fun listed a1 w1 hsz hst hr =>
  hQ a1 w1 (KP hcan hlen' hst (HB hb hsz hr) hsz)
 intro fuel
 induction fuel with
 | zero =>
   intro listed a1 w1 hsz hc hst
   have hr:Region.ready .any ops listed=[]:=by
    cases hr:Region.ready .any ops listed with
    | nil=>rfl
    | cons i l =>
      exfalso
      obtain ⟨o,ho,hl,_⟩:=F9 (i:=i) (by rw [hr]; simp) hsz
      have hi:=(Array.getElem?_eq_some_iff.1 ho).1
      have h0:cnt ops.size listed=0:=by omega
      unfold cnt at h0
      have:=List.countP_eq_zero.1 h0 i (List.mem_range.2 hi)
      rw [Array.getD_eq_getD_getElem?,hl] at this
      simp at this
   exact ⟨hr,hend listed a1 w1 hsz hst hr⟩
 | succ fuel ih =>
   intro listed a1 w1 hsz hc hst
   refine ⟨hend listed a1 w1 hsz hst,fun i hi=>?_⟩
   obtain ⟨o,ho,hl,hed⟩:=F9 hi hsz
   have hilt:=(Array.getElem?_eq_some_iff.1 ho).1
   obtain ⟨c,hci,hdst,hop,hdok,hgd⟩:=hget i o (by simpa using ho)
   obtain ⟨⟨gL,eL,sL,hI,hL,hT,hE,hM⟩,hts,hdf,hclosed⟩:=hst
   have hnot:¬ (listed[i]? = some true):=by rw [hl]; simp
   have hpre:∀ j,((Aw ops.toList []).getD i 0).testBit j=true→listed[j]? = some true:=EY hb hclosed i o ho hed
   have hpost:∀ j,listed[j]? = some true→((Aw ops.toList []).getD j 0).testBit i=true→False:=fun j hj hbit=>by
    have hjlt:j < listed.size:=(Array.getElem?_eq_some_iff.1 hj).1
    have hoj:=Array.getElem?_eq_getElem (xs:=ops) (i:=j) (by omega)
    exact hnot (EY hb hclosed j _ hoj (hclosed j hj _ hoj) i hbit)
   have hreads:=hM.reads hcan hci hnot hpre hpost
   have hsz':(listed.setIfInBounds i true).size=ops.size:=by simpa using hsz
   have hcnt:cnt ops.size (listed.setIfInBounds i true)≤fuel:=by
    have:cnt ops.size (listed.setIfInBounds i true) < cnt ops.size listed:=by
     unfold cnt
     refine Hy (List.mem_range.2 hilt) (fun x hx=>?_) (by rw [Array.getD_eq_getD_getElem?,hl]; rfl) (by rw [Array.getD_eq_getD_getElem?,(BI hsz hilt i).2 (.inr rfl)]; rfl)
     rw [Array.getD_eq_getD_getElem?,Array.getElem?_setIfInBounds] at hx
     rw [Array.getD_eq_getD_getElem?]
     by_cases hxi:i=x
     · subst hxi; rw [hl]; rfl
     · rw [if_neg hxi] at hx; exact hx
    omega
   have hclosed':∀ (j:Nat),(listed.setIfInBounds i true)[j]? = some true→∀ (o:Oper),ops[j]? = some o→∀ ed∈o.after.toList,Region.binds .any ed=true→(listed.setIfInBounds i true)[ed.on]? = some true:=by
    intro j hj oj hoj ed hm hbd
    rw [BI hsz hilt]
    rcases (BI hsz hilt j).1 hj with h | rfl
    · exact .inl (hclosed j h oj hoj ed hm hbd)
    · rw [ho] at hoj; cases hoj; exact .inl (hed ed hm hbd)
   have hst':∀ {g2:G} {v:AV} {s2:St} {u:Value} {w2:World},Inv (CRof P gt) g2 s2 w2→Le gL sL w1 g2 s2 w2→V g2 s2 w2 v u→Esc sL s2→Mid cl E S (fun j=>listed[j]? = some true∨j=i) (put eL c.dst v) s2 →
       NN P gt ops cl E S g s w a (listed.setIfInBounds i true) (a1.put o.dst u) w2:=by
    intro g2 v s2 u w2 hI2 hL2 hV hE2 hM2
    obtain ⟨p1,p2⟩:=GQ a1 o.dst u
    refine ⟨⟨g2,put eL c.dst v,s2,hI2,hL.trans hL2,?_,Esc.trans hL.nb hE hE2,hM2.congr fun j=>(BI hsz hilt j).symm⟩,by rw [p1,hts],by rw [p2,hdf],hclosed'⟩
    rw [hdst]
    exact KJ (DU hL2 hT) (by rw [hts,hn]; exact hdok) hV
   have hw:=JQ (o:=o) (ops:=ops) (gd:=c.guard) hT (by
    cases hg:o.guard with
    | none=>rw [hg] at hgd; exact hgd
    | some jw =>
      obtain ⟨j,want⟩:=jw
      rw [hg] at hgd
      obtain ⟨oj,d,q1,q2,q3,q4⟩:=hgd
      exact ⟨oj,d,q1,q2,by rw [hts,hn]; exact q3,q4⟩)
   have hwants:BE eL c.guard=BE (E i) c.guard:=by
    cases hg:c.guard with
    | none=>rfl
    | some tw =>
      obtain ⟨t,wv⟩:=tw
      simp only [BE]
      rw [hreads t (by simp [Op.reads,hg])]
   have hopr:∀ t∈c.op.tmps,eL.get t=(E i).get t:=fun t ht=>hreads t (by
    unfold Op.reads
    split
    · exact ht
    · exact List.mem_cons_of_mem _ ht)
   unfold wpOpIn
   simp only [ho]
   rw [hw,hwants]
   rcases D1 (hcan.step i c hci) with ⟨hwt,hq,v,hv,he⟩ | ⟨hwf,he,hs⟩
   · rw [if_pos hwt]
     have hclo:∀ i j,listed[j]? = some true→((Aw ops.toList []).getD j 0).testBit i=true→listed[i]? = some true:=fun i j hj hbit=>by
      have hjlt:j < listed.size:=(Array.getElem?_eq_some_iff.1 hj).1
      have hoj:=Array.getElem?_eq_getElem (xs:=ops) (i:=j) (by omega)
      exact EY hb hclosed j _ hoj (hclosed j hj _ hoj) i hbit
     obtain ⟨s2,hv2,h0,h2⟩:∃ s2,evOp self eL sL c.op=some (v,s2)∧(c.op.cls≠2→s2=sL)∧(c.op.cls=2→s2=S (i+1)):=by
      rw [F7 hopr]
      by_cases hc2:c.op.cls=2
      · have:=hM.at2 hcan hci hc2 hnot hpre hpost
        subst this
        exact ⟨_,hv,fun h=>absurd hc2 h,fun _=>rfl⟩
      · have hq':=hq.resolve_left hc2
        obtain ⟨k1,k2⟩:=D0 hc2 hq' hv
        by_cases hc0:c.op.cls=0
        · exact ⟨sL,k2 hc0 sL,fun _=>rfl,fun h=>absurd h hc2⟩
        · have hc1:c.op.cls=1:=by
           have:c.op.cls≤2:=by cases c.op<;>simp only [AOp.cls]<;>(try split)<;>omega
           omega
          obtain ⟨k,b1,b2,hsk⟩:=hM.at1 hcan hclo hci hc1 hpre hpost
          obtain ⟨q1,s'',q2⟩:=hcan.wok i c hci hc1 hwt v _ hv k b1 b2
          have:=(D0 hc2 q1 q2).1
          subst this
          rw [hsk]
          exact ⟨_,q2,fun _=>rfl,fun h=>absurd h hc2⟩
     have hord:c.op.cls=2→∀ j d,cl[j]? = some d→d.op.cls=2→j≠i→(j < i↔listed[j]? = some true):=fun h j d hd hj hne=>by
      rcases Nat.lt_trichotomy j i with hlt | rfl | hlt
      · exact ⟨fun _=>hpre j (BH hcan hlt hd hci hj h),fun _=>hlt⟩
      · exact absurd rfl hne
      · exact ⟨fun hh=>by omega,fun hLj=>(hpost j hLj (BH hcan hlt hci hd h hj)).elim⟩
     have hM2:=hM.put hcan hci hnot he h0 (fun h=>⟨h2 h,hord h⟩)
     cases hco:GR P gt pop o with
     | none=>rw [hop,hco] at hv2; simp [evOp] at hv2
     | some aop =>
       rw [hop,hco,Option.getD_some] at hv2
       refine QK (rd:=rd) hS hN hX hI (hG.mono hL) hT hco hv2 _ Q ?_
       rintro u w2 ⟨g2,hI2,hL2,hV2,hE2⟩
       exact ih _ _ _ hsz' hcnt (hst' hI2 hL2 hV2 hE2 hM2)
   · rw [if_neg (by rw [hwf]; simp)]
     refine ⟨fun _ _=>trivial,?_⟩
     have hord:c.op.cls=2→∀ j d,cl[j]? = some d→d.op.cls=2→j≠i→(j < i↔listed[j]? = some true):=fun h j d hd hj hne=>by
      rcases Nat.lt_trichotomy j i with hlt | rfl | hlt
      · exact ⟨fun _=>hpre j (BH hcan hlt hd hci hj h),fun _=>hlt⟩
      · exact absurd rfl hne
      · exact ⟨fun hh=>by omega,fun hLj=>(hpost j hLj (BH hcan hlt hci hd h hj)).elim⟩
     have hM2:=hM.put hcan hci hnot he (s2:=sL) (fun _=>rfl) (fun h=>⟨by rw [hs]; exact hM.at2 hcan hci h hnot hpre hpost,hord h⟩)
     exact ih _ _ _ hsz' hcnt (hst' hI (Le.refl _ _ _) (by simp [undef,Go.undef,V,VL]) (Esc.refl _) hM2)
end
end Go.Proofs.Ytfpoihibfajhlaa.Am

namespace Go.Proofs.Ytfpoihibfajhlaa.Am
section
variable {rd:Option Nat} {P:Program} {gt:Nat→Option (List AV)} {prog:Nat→Option Fun} {self:Self}
theorem D8 {n j:Nat}:¬ ((Array.replicate n false)[j]? = some true):=by
 rw [Array.getElem?_replicate]
 split<;>simp
theorem QR (hS:SelfOk P gt self) (hN:Bq P) (hX:Ctx P gt prog) {pop:Bool×Nat×String} {n id:Nat} {ops:Array Oper} {cl:List Op} (hcl:Di P gt pop n ops ops.toList=some cl) {wins:List (Nat×Nat×Nat)} (hd:Hv ops cl wins=true)
    {e e':Tr} {s s':St} (h:evD self cl wins e s=some (e',s')) {g:G} {w:World} {a:Act} (hI:Inv (CRof P gt) g s w) (hG:GT gt g w) (hT:VT g s w e a.tmps) (hz:a.tmps.size=n) (hn:n < 1000) (hm:P.follows .mixedOrders=true)
    {Q:Exit→Act→World→Prop} (hQ:∀ a' w',GH P gt g s w a e' s' a' w'→Q .normal a' w'):(Code.region id ops true).wpIn (Ee rd) 0 P Q a w:=by
 unfold Hv at hd
 rw [Bool.and_eq_true,Bool.and_eq_true] at hd
 obtain ⟨⟨hb,hall⟩,hsane⟩:=hd
 obtain ⟨hlen,hget⟩:=D7 hcl
 unfold evD at h
 split at h<;>try (cases h; done)
 rename_i tr htr
 split at h<;>try (cases h; done)
 rename_i hchk
 obtain ⟨E,S,e0,s0,hstep,htrace,hlast⟩:=Fs htr
 rw [hlast] at h
 have hes:=Option.some.inj h
 have e1:E cl.length=e':=congrArg Prod.fst hes
 have s1:S cl.length=s':=congrArg Prod.snd hes
 have hwins:=Hx htrace hsane hchk
 have hcan:Canon self cl E S (Aw ops.toList []) (winF wins):=by
  refine ⟨hstep,fun i c d hc hcd=>?_,fun i j o p hij ho hp=>?_,fun i c hc hcls=>?_,fun i hi=>?_⟩
  · have hi:=(List.getElem?_eq_some_iff.1 hc).1
    obtain ⟨c',k1,k2,_,k4,_⟩:=hget i _ (List.getElem?_eq_getElem (by omega))
    rw [hc] at k1; cases k1
    rw [← k2,hcd] at k4
    have:d < n:=by simpa [J9,Nat.blt_eq] using k4
    omega
  · have:=Ft hall i j o p hij ho hp
    simpa using this
  · rcases GZ (wins:=wins) (i:=i) with hw | hw
    · intro hwt v s2 hv k hk1 hk2
      rw [hw] at hk1 hk2
      have:k=i:=by simp only at hk1 hk2; omega
      subst this
      refine ⟨?_,s2,hv⟩
      rcases D1 (hstep k c hc) with ⟨_,hq,_⟩ | ⟨hwf,_⟩
      · rcases hq with hq | hq
        · omega
        · exact hq
      · rw [hwt] at hwf; cases hwf
    · exact hwins _ hw c hc
  · rcases GZ (wins:=wins) (i:=i) with hw | hw
    · rw [hw]; simp only; omega
    · have:=List.all_eq_true.1 hsane _ hw
      simp only [Bool.and_eq_true] at this
      have h1:=Nat.le_of_ble_eq_true this.1
      have h2:=Nat.le_of_ble_eq_true this.2.1
      have h3:=Nat.le_of_ble_eq_true this.2.2
      exact ⟨h1,h2,h3⟩
 subst e1 s1
 refine wpIn_region_any hm (anyD hS hN hX hcl hb hcan hz hG hQ ops.size _ _ _ (by simp) ?_ ?_)
 · unfold cnt
   exact Nat.le_trans List.countP_le_length (by simp)
 · have hI':Inv (CRof P gt) g s { w with drawn:=w.drawn+1 }:=Inv.heap (w:=w) rfl hI
   have hL':Le g s w g s { w with drawn:=w.drawn+1 }:=Le.heap (w:=w) rfl
   refine ⟨⟨g,e,s,hI',hL',DU hL' hT,Esc.refl _,?_⟩,rfl,rfl,fun j hj=>absurd hj D8⟩
   refine ⟨fun t j c hL=>absurd hL D8,fun t _=>by rw [e0],fun k hk hh=>?_⟩
   rw [← s0]
   refine (hcan.state (Nat.zero_le _) hk fun j c _ hlt hc hj=>?_).symm
   exact absurd ((hh j c hc hj).1 hlt) D8
end
end Go.Proofs.Ytfpoihibfajhlaa.Am

namespace Go.Proofs.Ytfpoihibfajhlaa.Am
section
variable {rd:Option Nat} {P:Program} {gt:Nat→Option (List AV)} {prog:Nat→Option Fun} {self:Self} {g g1:G} {s s1 s':St} {w w1 w':World} {e e':Tr} {a a1 a':Act} {x:Ex} {xx:Exit}
theorem BT.trans (hL:Le g s w g1 s1 w1) (hE:Esc s s1) (hsz:a1.tmps.size=a.tmps.size) (hr:rd.isSome=true→a1.defers=a.defers)
    (hd:∃ ds,a1.defers=ds++a.defers∧(∀ d∈ds,∃ r,d={ target:=.collected r,args:=#[] }∧w.heap.size≤r∧w1.heap[r]? = some (.deferred (some [])))∧ds.Pairwise (fun d d'=>d≠d'))
    (h:BT P gt g1 s1 w1 rd a1 x e' s' xx a' w'):BT P gt g s w rd a x e' s' xx a' w':=by
 obtain ⟨h1,h2,⟨g',hI',hL',hT',hE'⟩,h4,ds',k1,k2,k3⟩:=h
 obtain ⟨ds,m1,m2,m3⟩:=hd
 refine ⟨h1,by rw [h2,hsz],⟨g',hI',hL.trans hL',hT',Esc.trans hL.nb hE hE'⟩,fun hh=>by rw [h4 hh,hr hh],ds'++ds,by rw [k1,m1,List.append_assoc],?_,?_⟩
 · intro d hd
   rcases List.mem_append.1 hd with hd | hd
   · obtain ⟨r,q1,q2,q3⟩:=k2 d hd
     exact ⟨r,q1,Nat.le_trans hL.size q2,q3⟩
   · obtain ⟨r,q1,q2,q3⟩:=m2 d hd
     exact ⟨r,q1,q2,hL'.dfr r q3⟩
 · rw [List.pairwise_append]
   refine ⟨k3,m3,fun d hd d' hd' heq=>?_⟩
   obtain ⟨r,q1,q2,q3⟩:=k2 d hd
   obtain ⟨r',p1,p2,p3⟩:=m2 d' hd'
   subst heq
   rw [q1] at p1
   have:r=r':=by injection p1 with p1; injection p1
   subst this
   rcases Array.getElem?_eq_some_iff.1 p3 with ⟨hlt,_⟩
   omega
theorem BT.of_ops {n:Act} (hex:E5 x xx) (h:GH P gt g s w a e' s' n w'):BT P gt g s w rd a x e' s' xx n w':=by
 obtain ⟨h1,h2,h3⟩:=h
 exact ⟨hex,h1,h3,fun _=>h2,[],by simp [h2],by simp,List.Pairwise.nil⟩
theorem BT.here (hex:E5 x xx) (hI:Inv (CRof P gt) g s w) (hT:VT g s w e a.tmps):BT P gt g s w rd a x e s xx a w :=
 .of_ops hex ⟨rfl,rfl,g,hI,Le.refl _ _ _,hT,Esc.refl _⟩
theorem BT.other {ex2:Exit} {x2:Ex} (hex:E5 x2 ex2) (h:BT P gt g s w rd a x e' s' xx a' w'):BT P gt g s w rd a x2 e' s' ex2 a' w' :=
 ⟨hex,h.2⟩
theorem DS {b:Frame} {a:Act} {k:List Item} {cs:List Frame} {w:World} {c:Code}:step P (lone (b.atR a (.code (.scope c)::k)) cs w)=.next (lone (b.atR a (.code c::.inScope c::k)) cs w) :=
 step_lone_go (by simp [stepG,stepG.exec,Frame.atR])
theorem JR {b:Frame} {a:Act} {k:List Item} {cs:List Frame} {w:World} {c:Code}:step P (lone (b.atR a (.inScope c::k)) cs w)=.next (lone (b.atR a k) cs w) :=
 step_lone_go (by simp [stepG,stepG.exec,Frame.atR])
theorem Mh {c:Code} {F:Fence} {n:Nat} {Q:Exit→Act→World→Prop} (h:c.wpIn F n P Q a w) (hg:∀ l a w,¬ Q (.goto l) a w):(Code.scope c).wpIn F n P Q a w:=by
 intro b k cs hro hb hr
 have h0:(lone (b.atR a (.code (.scope c)::k)) cs w).fenced P F:=fenced_calm hb hr rfl
 obtain ⟨e,a₁,w₁,hq,harr⟩:=h b (.inScope c::k) cs hro hb hr
 cases e with
 | normal=>exact ⟨.normal,a₁,w₁,hq,.head h0 DS (StepsIn.trans harr (.one (fenced_calm hb hr rfl) JR))⟩
 | exit id =>
   have hx:exitTo id (.inScope c::k)=exitTo id k:=by simp [exitTo]
   exact ⟨.exit id,a₁,w₁,hq,fun k' hk=>.head h0 DS (harr.1 k' (by rw [hx]; exact hk)),
    fun hr' hk=>let ⟨k₁,h1,h2⟩:=harr.2 hr' (by rw [hx]; exact hk); ⟨k₁,h1,.head h0 DS h2⟩⟩
 | goto l=>exact absurd hq (hg _ _ _)
 | ret=>exact ⟨_,a₁,w₁,hq,.of_steps (.one h0 DS) harr⟩
 | panic ch=>exact ⟨_,a₁,w₁,hq,.of_steps (.one h0 DS) harr⟩
 | outgrown=>exact ⟨_,a₁,w₁,hq,.of_steps (.one h0 DS) harr⟩
theorem LK {b:Code} {F:Fence} {n:Nat} {Q:Exit→Act→World→Prop} (h:Dq F n P b Q a w):(Code.loop b).wpIn F n P Q a w:=by
 intro fr k cs hro hb hr
 obtain ⟨e,a',w',q,harr⟩:=h fr k cs hro hb hr
 exact ⟨e,a',w',q,.of_steps (.one (fenced_calm hb hr rfl) stepR_loop) harr⟩
theorem JS {b:Code} {F:Fence} {n:Nat} {Q:Exit→Act→World→Prop} (h:b.wpIn F n P (Exit.then (fun a' w'=>Dq F n P b Q a' w') Q) a w):Dq F n P b Q a w:=by
 intro fr k cs hro hb hr
 obtain ⟨e,a₁,w₁,hq,harr⟩:=h fr (.inLoop b::k) cs hro hb hr
 cases e with
 | normal =>
   obtain ⟨e₂,a₂,w₂,hq₂,harr₂⟩:=hq fr k cs hro hb hr
   exact ⟨e₂,a₂,w₂,hq₂,.of_steps (StepsIn.trans harr (.one (fenced_calm hb hr rfl) stepR_inLoop)) harr₂⟩
 | exit id=>exact ⟨_,a₁,w₁,hq,.pass (x:=.inLoop b) rfl (fun _ _=>.inl (by simp)) harr⟩
 | goto l=>exact ⟨_,a₁,w₁,hq,.pass (x:=.inLoop b) rfl (fun _ _=>.inl (by simp)) harr⟩
 | ret=>exact ⟨_,a₁,w₁,hq,.pass (x:=.inLoop b) rfl (fun _ _=>.inl (by simp)) harr⟩
 | panic ch=>exact ⟨_,a₁,w₁,hq,.pass (x:=.inLoop b) rfl (fun _ _=>.inl (by simp)) harr⟩
 | outgrown=>exact ⟨_,a₁,w₁,hq,.pass (x:=.inLoop b) rfl (fun _ _=>.inl (by simp)) harr⟩
theorem Dq.mono {b:Code} {F:Fence} {n:Nat} {Q Q':Exit→Act→World→Prop} (h:Dq F n P b Q a w) (hq:∀ e a w,Q e a w→Q' e a w):Dq F n P b Q' a w:=by
 intro fr k cs hro hb hr
 obtain ⟨e,a',w',q,harr⟩:=h fr k cs hro hb hr
 exact ⟨e,a',w',hq _ _ _ q,harr⟩
theorem Mi {l:Nat} {r:Ex×Tr×St} (h:endR s l e=some r):∃ st pend tm ps x y,s.box? l=some (.loop st pend tm ps x y)∧st≠1∧r.2=(e,s.setBox l .used) ∧
    ((pend=none∧r.1=.n)∨(∃ id,pend=some (.exit id)∧r.1=.x id)∨(pend=some .ret∧r.1=.r)):=by
 unfold endR at h
 split at h<;>try (cases h; done)
 rename_i st p tm ps x y hb
 split at h<;>try (cases h; done)
 rename_i hst
 split at h<;>try (cases h; done)
 · cases h; exact ⟨_,_,_,_,_,_,hb,hst,rfl,.inl ⟨rfl,rfl⟩⟩
 · cases h; exact ⟨_,_,_,_,_,_,hb,hst,rfl,.inr (.inl ⟨_,rfl,rfl⟩)⟩
 · cases h; exact ⟨_,_,_,_,_,_,hb,hst,rfl,.inr (.inr ⟨rfl,rfl⟩)⟩
theorem QL {st:Nat} (h:LS st .busy):st=1:=by
 rcases st with _ | _ | _ | _<;>first | rfl | exact h.elim
theorem rf_ok (hS:SelfOk P gt self) (hN:Bq P) (hI:Inv (CRof P gt) g s w) (hG:GT gt g w) (hT:VT g s w e a.tmps) {n:Nat} (hn:a.tmps.size=n) (hn':n < 1000) {pops:List Nat} {f:Operand} {ps:Array Tmp} {x0 y0:Code} {fx:X}
    (hf:cvX gt f=some fx) (hx:noRf x0=true) (hy:noRf y0=true) (hps:∀ p∈ps.toList,p < n)
    (h:evC self (.rf fx ps.toList (Bz P gt pops n x0) (Bz P gt pops n y0)) e s=some (x,e',s')) :
    (Code.rangeFunc f ps x0 y0).wpIn (Ee none) 0 P (BT P gt g s w none a x e' s') a w:=by
 simp only [evC] at h
 split at h<;>try (cases h; done)
 rename_i fn caps hfx
 split at h<;>try (cases h; done)
 rename_i rv s2 hcall
 have hv:=AM hG hT hf
 rw [hfx] at hv
 simp only [V] at hv
 obtain ⟨us,hu1,hu2⟩:=hv
 obtain ⟨F,b,hF,hb⟩:=hS.body _ _ _ _ _ hcall
 refine wpIn_rangeFunc fun fid _=>?_
 have hI1:=Inv.newRow hI 0 (.deferred (some []))
 have hL1:=Le.newRow hI 0 (.deferred (some []))
 have hsz1:(w.alloc (.deferred (some []))).heap.size=w.heap.size+1:=by simp
 obtain ⟨rec,hrec⟩:∃ rec:Loop,rec={ state:=.ready,pending:=none,fn:=fid,tmps:=a.tmps,params:=ps,assign:=x0,body:=y0,defers:=w.heap.size }:=⟨_,rfl⟩
 have hL2:=Le.newBox hI1 (.loop 0 none e ps.toList (Bz P gt pops n x0) (Bz P gt pops n y0)) (.loop rec)
 have hI2:=Inv.newBox hI1 (.loop 0 none e ps.toList (Bz P gt pops n x0) (Bz P gt pops n y0)) (.loop rec) (by
  refine ⟨rec,?_,?_⟩
  · have h:=Ax (w.alloc (.deferred (some []))) (.loop rec)
    exact h
  · subst hrec
    exact ⟨trivial,trivial,DU (hL1.trans hL2) hT,⟨rfl,by rw [hn]; exact hps⟩,⟨by rw [hn]; exact hn',hx,pops,by rw [hn]⟩,⟨by rw [hn]; exact hn',hy,pops,by rw [hn]⟩⟩)
 have hL12:=hL1.trans hL2
 obtain ⟨G2,hG2⟩:∃ G2,G2=(g.newRow w 0).newBox s (w.alloc (.deferred (some []))):=⟨_,rfl⟩
 rw [← hG2] at hI2 hL2 hL12
 have hbx:G2.bx s.nb=w.heap.size+1:=by rw [hG2]; simp [G.newBox]
 obtain ⟨W2,hW2⟩:∃ W2,W2=(w.alloc (.deferred (some []))).alloc (.loop rec):=⟨_,rfl⟩
 rw [← hW2] at hI2 hL2 hL12
 have hargs:VL G2 (s.new (.loop 0 none e ps.toList (Bz P gt pops n x0) (Bz P gt pops n y0))) W2 (.yld s.nb::caps) (Value.func (.yield (w.heap.size+1)) #[] #[]::us):=by
  simp only [VL]
  refine ⟨_,_,rfl,?_,Ap hL12 _ _ hu1⟩
  simp only [V]
  exact ⟨by simp [St.new],by rw [hbx]⟩
 have hD:W2.heap[w.heap.size]? = some (.deferred (some [])):=by
  rw [hW2]
  exact A6 (Ax w _)
 refine ⟨w.heap.size+1,[{ target:=.collected w.heap.size,args:=#[] }],W2,{ target:=.fn (.func fn) us.toArray,args:=#[Value.func (.yield (w.heap.size+1)) #[] #[]] },W2,fn,#[Value.func (.yield (w.heap.size+1)) #[] #[]]++us.toArray,W2,?_,?_,fun _ _=>trivial,?_,(fun hh=>by cases hh),?_⟩
 · have:(Ee none).round=none:=rfl
   rw [this]
   simp [Instr.enterLoop,hW2,hrec]
 · have e0:a.eval (.const (.func (.yield (w.heap.size+1)) #[] #[]))=.func (.yield (w.heap.size+1)) #[] #[]:=rfl
   simp [resolve,hu2,Deferred.ofValue,e0]
 · simpa [invoke] using Cp (w:=W2) hN hF hb _
 · have hc:=hS.call _ _ _ _ _ hcall G2 W2 _ hI2 (hG.mono hL12) hargs
   have e1:(Value.func (.yield (w.heap.size+1)) #[] #[]::us).toArray=#[Value.func (.yield (w.heap.size+1)) #[] #[]]++us.toArray:=by apply Array.toList_inj.1; simp
   rw [e1] at hc
   refine IT (rd:=none) (n:=0 - 1) (hc.mono ?_)
   rintro en w3 ⟨v,rfl,g3,hI3,hL3,hV3,hE3⟩
   obtain ⟨st,pend,tm,ps',x',y',hb3,hst,hr2,hr⟩:=Mi h
   obtain ⟨L,k1,k2,k3,k4,k5,k6,k7,k8,k9⟩:=Hg hI3 hb3
   have hbx3:g3.bx s.nb=w.heap.size+1:=by rw [hL3.bx s.nb (by simp [St.new]),hbx]
   rw [hbx3] at k1 k8 k9
   have hb3':s2.box? s.nb=some (.loop st pend tm ps' x' y'):=hb3
   obtain ⟨m1,m2,m3⟩:=OX hI3 hb3' (by rw [hbx3]; exact k1) { L with state:=.exhausted }
   rw [hbx3] at m1 m2
   have k9':=k9 { L with state:=.exhausted }
   obtain ⟨W4,hW4⟩:∃ W4:World,{ w3 with heap:=w3.heap.setIfInBounds (w.heap.size+1) (.loop { L with state:=.exhausted }) }=W4:=⟨_,rfl⟩
   rw [hW4] at m1 m2 k9'
   simp only [rangePost]
   refine ⟨L.pending,W4,?_,?_⟩
   · have hbusy:¬ ((L.state==LoopState.busy)=true):=by
      intro hh
      cases hs:L.state<;>rw [hs] at hh k2
      · cases hh
      · exact hst (QL k2)
      · cases hh
      · cases hh
     simp only [Instr.endLoop,Sem.run_bind,k8,Result.andThen_ok,k9]
     rw [if_neg hbusy]
     simp only [Sem.run_bind,k9',Result.andThen_ok,Sem.run_pure]
   · have hLe:=(hL12.trans hL3).trans m2
     have hpost:∀ {X:Ex} {EX:Exit},E5 X EX→BT P gt g s w none a X e (s2.setBox s.nb .used) EX { a with defers:=[{ target:=.collected w.heap.size,args:=#[] }]++a.defers } W4:=by
      intro X EX hX
      refine ⟨hX,rfl,⟨g3,m1,hLe,DU hLe hT,Esc.trans (hL12.trans hL3).nb (Esc.trans hL12.nb (HF s _) hE3) m3⟩,fun hh=>(by cases hh),[{ target:=.collected w.heap.size,args:=#[] }],rfl,?_,by simp⟩
      intro d hd
      simp only [List.mem_singleton] at hd
      exact ⟨_,hd,Nat.le_refl _,m2.dfr _ (hL3.dfr _ hD)⟩
     obtain ⟨hr2a,hr2b⟩:e'=e∧s'=s2.setBox s.nb .used:=by
      simp only [Prod.mk.injEq] at hr2; exact hr2
     subst hr2a hr2b
     rcases hr with ⟨rfl,rfl⟩ | ⟨id,rfl,rfl⟩ | ⟨rfl,rfl⟩
     · cases hp:L.pending with
       | none=>exact @hpost .n .normal trivial
       | some c=>rw [hp] at k3; simp [PR] at k3
     · cases hp:L.pending with
       | none=>rw [hp] at k3; simp [PR] at k3
       | some c =>
         rw [hp] at k3
         cases c<;>simp [PR] at k3
         subst k3
         exact wpIn_exit (@hpost (.x id) (.exit id) rfl)
     · cases hp:L.pending with
       | none=>rw [hp] at k3; simp [PR] at k3
       | some c =>
         rw [hp] at k3
         cases c<;>simp [PR] at k3
         exact wpIn_ret (@hpost .r .ret trivial)
end
end Go.Proofs.Ytfpoihibfajhlaa.Am

namespace Go.Proofs.Ytfpoihibfajhlaa.Am
variable {CR:Nat→Code→C→Prop} {P:Program} {g:G} {s:St} {w:World}
def G.adopt (g:G) (s:St) (b:Nat):G:={ g with bx:=fun id=>if id=s.nb then b else g.bx id }
theorem Le0.adopt (hI:Inv CR g s w) (b:Nat) (B:Box):Le0 g s w (g.adopt s b) (s.new B) w where
 io:=⟨rfl,rfl⟩
 base:=rfl
 size:=Nat.le_refl _
 low:=fun _ _=>rfl
 prot:=fun _=>Nat.le_refl _
 cell:=fun _ _ _ _ hc=>hc
 dfr:=fun _ hb=>hb
 arr:=fun _=>.same rfl
 nb:=by simp [St.new]
 bx:=fun id hid=>by simp [G.adopt,Nat.ne_of_lt hid]
 nt:=Nat.le_refl _
 has:=fun _ _ _ hk h=>hk.2 _ h
 ok:=fun _ _ _ h=>h
 tok:=DV (fun _=>rfl) (fun _ _ _ _ _ _ hc=>hc) (fun _ _=>rfl)
structure Free (g:G) (s:St) (w:World) (b:Nat):Prop where
 base:g.base≤b
 lt:b < w.heap.size
 own:¬ Own g s b
 prot:g.prot b=0
theorem Inv.adopt (hI:Inv CR g s w) {b:Nat} (hF:Free g s w b) {T:Nat} {l:List AV} {arr:Array Value} (hb:w.heap[b]? = some (.cells arr T (0,0))) (hl:VL g s w l arr.toList) :
    Inv CR (g.adopt s b) (s.new (.cells T l)) w:=by
 have hL:=Le0.adopt hI b (.cells T l)
 have hne:∀ id,id < s.nb→g.bx id≠b:=fun id hid he=>hF.own (.inl ⟨id,hid,he⟩)
 have hnt:∀ k,k < s.nt→(g.tk k).blk≠b:=fun k hk he=>hF.own (.inr ⟨k,hk,he⟩)
 have hbx:∀ id,id < s.nb→(g.adopt s b).bx id=g.bx id:=fun id hid=>by simp [G.adopt,Nat.ne_of_lt hid]
 have hnew:(g.adopt s b).bx s.nb=b:=by simp [G.adopt]
 have hboxes:∀ id B,(s.new (.cells T l)).box? id=some B→(id=s.nb∧B=.cells T l)∨(id≠s.nb∧s.box? id=some B):=fun id B hB=>by
  rw [new_box?] at hB
  by_cases hid:id=s.nb
  · rw [if_pos hid] at hB; cases hB; exact .inl ⟨hid,rfl⟩
  · rw [if_neg hid] at hB; exact .inr ⟨hid,hB⟩
 exact {
  lenB:=by simp [St.new,hI.lenB]
  lenT:=hI.lenT
  base:=hI.base
  fresh:=hI.fresh
  lt := fun id hid=>by
   by_cases h:id=s.nb
   · subst h; rw [hnew]; exact ⟨hF.base,hF.lt⟩
   · have hid':id < s.nb:=by simp [St.new] at hid; omega
     rw [hbx id hid']; exact hI.lt id hid'
  pr:=fun id B hB hf=>by
   rcases hboxes id B hB with ⟨rfl,rfl⟩ | ⟨_,hB⟩
   · rw [hnew]; exact hF.prot
   · rw [hbx id (box?_lt hB)]; exact hI.pr id B hB hf
  box:=fun id B hB=>by
   rcases hboxes id B hB with ⟨rfl,rfl⟩ | ⟨_,hB⟩
   · rw [hnew]; exact ⟨arr,hb,Cl hL _ _ hl⟩
   · rw [hbx id (box?_lt hB)]; exact (hI.box id B hB).mono0 hL rfl
  inj:=fun i j A B hA hB la lb he=>by
   rcases hboxes i A hA with ⟨rfl,rfl⟩ | ⟨_,hA⟩<;>rcases hboxes j B hB with ⟨rfl,rfl⟩ | ⟨_,hB⟩
   · rfl
   · rw [hnew,hbx j (box?_lt hB)] at he; exact absurd he.symm (hne j (box?_lt hB))
   · rw [hnew,hbx i (box?_lt hA)] at he; exact absurd he (hne i (box?_lt hA))
   · rw [hbx i (box?_lt hA),hbx j (box?_lt hB)] at he; exact hI.inj i j A B hA hB la lb he
  tlt:=hI.tlt
  tall:=hI.tall
  tok:=fun k t ht=>{ hI.tok k t ht with }
  tinj:=hI.tinj
  btk:=fun i B k t hB lb ht he=>by
   rcases hboxes i B hB with ⟨rfl,rfl⟩ | ⟨_,hB⟩
   · rw [hnew] at he; exact hnt k (tok?_lt ht) he.symm
   · rw [hbx i (box?_lt hB)] at he; exact hI.btk i B k t hB lb ht he }
theorem Free.mono {g':G} {s':St} {w':World} {b:Nat} (h:Le g s w g' s' w') (hF:Free g s w b):Free g' s' w' b∧w'.heap[b]? = w.heap[b]? := by
 obtain ⟨h1,h2⟩:=h.frame b hF.lt hF.own
 exact ⟨⟨by rw [h.base]; exact hF.base,Nat.lt_of_lt_of_le hF.lt h.size,fun ho=>hF.own (h.own b hF.lt ho),by rw [h2]; exact hF.prot⟩,h1⟩
theorem Free.new (hI:Inv CR g s w) (o:Obj):Free g s (w.alloc o) w.heap.size where
 base:=hI.base
 lt:=by simp
 own:=fun ho=>by
  rcases ho with ⟨id,hid,he⟩ | ⟨k,hk,he⟩
  · have:=(hI.lt id hid).2; omega
  · have:=hI.tall k hk; omega
 prot:=hI.fresh _ (Nat.le_refl _)
theorem Le.adopt {g0:G} {s0:St} {w0:World} (h:Le g0 s0 w0 g s w) (hI:Inv CR g s w) {b:Nat} (hb:w0.heap.size≤b) {B:Box} {g':G} {s':St} {w':World} (k:Le (g.adopt s b) (s.new B) w g' s' w'):Le g0 s0 w0 g' s' w' where
 toLe0:=(h.toLe0.trans (Le0.adopt hI b B)).trans k.toLe0
 own:=fun c hc ho=>by
  have h1:=k.own c (Nat.lt_of_lt_of_le hc h.size) ho
  refine h.own c hc ?_
  rcases h1 with ⟨id,hid,he⟩ | h1
  · by_cases hn:id=s.nb
    · subst hn; simp [G.adopt] at he; omega
    · exact .inl ⟨id,by simp [St.new] at hid; omega,by simpa [G.adopt,hn] using he⟩
  · exact .inr h1
 frame:=fun c hc ho=>by
  obtain ⟨h1,h2⟩:=h.frame c hc ho
  have ho2:¬ Own (g.adopt s b) (s.new B) c:=fun ho2=>by
   rcases ho2 with ⟨id,hid,he⟩ | ho2
   · by_cases hn:id=s.nb
     · subst hn; simp [G.adopt] at he; omega
     · exact ho (h.own c hc (.inl ⟨id,by simp [St.new] at hid; omega,by simpa [G.adopt,hn] using he⟩))
   · exact ho (h.own c hc (.inr ho2))
  obtain ⟨k1,k2⟩:=k.frame c (Nat.lt_of_lt_of_le hc h.size) ho2
  exact ⟨k1.trans h1,k2.trans h2⟩
end Go.Proofs.Ytfpoihibfajhlaa.Am

namespace Go.Proofs.Ytfpoihibfajhlaa.Am
section
variable {rd:Option Nat} {P:Program} {gt:Nat→Option (List AV)} {prog:Nat→Option Fun} {self:Self}
theorem QX {g:G} {s:St} {w:World} {e e':Tr} {tmps:Array Value} (h:∀ t,e'.get t=e.get t) (hT:VT g s w e tmps):VT g s w e' tmps:=⟨hT.1,fun t=>by rw [h]; exact hT.2 t⟩
theorem LQ {ops:Array Oper} {i j d T m:Nat} {z:List AV} {v:X} (h:KI P gt ops i j=some (d,T,z,m,v)) :
    ∃ oi oj z0 ts x,ops[i]? = some oi∧ops[j]? = some oj∧oi.op=.alloc T∧oi.dst=some d∧oi.guard=none∧oj.op=.store ts (.tmp d) x∧oj.dst=none∧oj.guard=none∧ES P T=some z0∧z=z0.cells∧A5 P ts=some m∧cvX gt x=some v:=by
 unfold KI at h
 split at h<;>try (cases h; done)
 rename_i oi oj hi hj
 split at h<;>try (cases h; done)
 rename_i T' d' ts d2 x e1 e2 e3 e4 e5 e6
 split at h<;>try (cases h; done)
 rename_i z0 m' v' h1 h2 h3
 split at h<;>try (cases h; done)
 rename_i hd
 subst hd
 cases h
 exact ⟨oi,oj,z0,ts,x,hi,hj,e1,e2,e3,e4,e5,e6,h1,rfl,h2,h3⟩
structure Fuse (P:Program) (gt:Nat→Option (List AV)) (ops:Array Oper) (cl:List Op) (i0 j0 d T m:Nat) (z:List AV) (vx:X) (n:Nat):Prop where
 at_:∃ oi oj z0 ts x,ops[i0]? = some oi∧ops[j0]? = some oj∧oi.op=.alloc T∧oi.dst=some d∧oi.guard=none∧oj.op=.store ts (.tmp d) x∧oj.dst=none∧oj.guard=none∧ES P T=some z0∧z=z0.cells∧A5 P ts=some m∧cvX gt x=some vx
 lt:i0 < j0
 bit:((Aw ops.toList []).getD j0 0).testBit i0=true
 dn:d < n
 reads:∀ (k:Nat) (c:Op),(Ct cl i0 j0 d T z m vx)[k]? = some c→d∉c.reads
theorem KV {cl:List Op} {i0 j0 d T m:Nat} {z:List AV} {vx:X} (hlt:i0 < j0) (hj:j0 < cl.length) (k:Nat):(Ct cl i0 j0 d T z m vx)[k]? = if k=j0 then some ⟨some d,.adp T z m vx,none⟩ else if k=i0 then some ⟨none,.mv (.c undef),none⟩ else cl[k]? := by
 unfold Ct
 rw [List.getElem?_set]
 by_cases h1:j0=k
 · subst h1; simp [hj]
 · rw [if_neg h1,if_neg (Ne.symm h1),List.getElem?_set]
   by_cases h2:i0=k
   · subst h2; simp; omega
   · rw [if_neg h2,if_neg (Ne.symm h2)]
def I6 (P:Program) (gt:Nat→Option (List AV)) (ops:Array Oper) (cl:List Op) (E:Nat→Tr) (S:Nat→St) (i0 j0 d T:Nat) (z:List AV) (g:G) (s:St) (w:World) (a:Act) (listed:Array Bool) (a1:Act) (w1:World):Prop :=
 (∃ gL eL sL eX,Inv (CRof P gt) gL sL w1∧Le g s w gL sL w1∧VT gL sL w1 eX a1.tmps∧(∀ t,t≠d→eX.get t=eL.get t)∧Esc s sL∧Mid cl E S (fun j=>listed[j]? = some true) eL sL ∧
  (¬ (listed[i0]? = some true∧¬ listed[j0]? = some true)→eX.get d=eL.get d) ∧
  ((listed[i0]? = some true∧¬ listed[j0]? = some true)→∃ b arr,a1.tmps.getD d Go.undef=.pointer (some ⟨b,0,none⟩)∧Free gL sL w1 b∧w.heap.size≤b∧w1.heap[b]? = some (.cells arr T (0,0))∧∀ g s w,VL g s w z arr.toList)) ∧
 a1.tmps.size=a.tmps.size∧a1.defers=a.defers ∧
 ∀ (j:Nat),listed[j]? = some true→∀ (o:Oper),ops[j]? = some o→∀ ed∈o.after.toList,Region.binds .any ed=true→listed[ed.on]? = some true
theorem anyF (hS:SelfOk P gt self) (hN:Bq P) (hX:Ctx P gt prog) {pop:Bool×Nat×String} {n:Nat} {ops:Array Oper} {cl:List Op} (hcl:Di P gt pop n ops ops.toList=some cl) (hb:Dd 0 ops.toList=true)
    {i0 j0 d T m:Nat} {z:List AV} {vx:X} (hF:Fuse P gt ops cl i0 j0 d T m z vx n)
    {E:Nat→Tr} {S:Nat→St} {win:Nat→Nat×Nat} (hcan:Canon self (Ct cl i0 j0 d T z m vx) E S (Aw ops.toList []) win) {g:G} {s:St} {w:World} {a:Act} (hn:a.tmps.size=n) (hG:GT gt g w) {Q:Exit→Act→World→Prop}
    (hQ:∀ a' w',GH P gt g s w a (E (Ct cl i0 j0 d T z m vx).length) (S (Ct cl i0 j0 d T z m vx).length) a' w'→Q .normal a' w') :
    ∀ (fuel:Nat) (listed:Array Bool) (a1:Act) (w1:World),listed.size=ops.size→cnt ops.size listed≤fuel→I6 P gt ops (Ct cl i0 j0 d T z m vx) E S i0 j0 d T z g s w a listed a1 w1→wpAnyIn (Ee rd) 0 P .any ops Q fuel listed a1 w1:=by
 obtain ⟨hlen,hget⟩:=D7 hcl
 obtain ⟨oi,oj,z0,ts,xo,q1,q2,q3,q4,q5,q6,q7,q8,q9,q10,q11,q12⟩:=hF.at_
 have hj0:j0 < ops.size:=(Array.getElem?_eq_some_iff.1 q2).1
 have hlenF:(Ct cl i0 j0 d T z m vx).length=ops.size:=by simp [Ct,hlen]
 have hfg:=KV (cl:=cl) (d:=d) (T:=T) (m:=m) (z:=z) (vx:=vx) hF.lt (by rw [hlen]; simpa using hj0)
 have hstand:∀ (listed:Array Bool) (a1:Act) (w1:World),listed.size=ops.size→(∀ i,i < ops.size→listed[i]? = some true)→I6 P gt ops (Ct cl i0 j0 d T z m vx) E S i0 j0 d T z g s w a listed a1 w1→NN P gt ops (Ct cl i0 j0 d T z m vx) E S g s w a listed a1 w1:=by
  rintro listed a1 w1 hsz hall ⟨⟨gL,eL,sL,eX,hI,hL,hT,hE1,hE,hM,hE2,_⟩,h2,h3,h4⟩
  refine ⟨⟨gL,eL,sL,hI,hL,QX (fun t=>?_) hT,hE,hM⟩,h2,h3,h4⟩
  by_cases ht:t=d
  · subst ht; exact (hE2 fun hh=>hh.2 (hall j0 hj0)).symm
  · exact (hE1 t ht).symm
 have hend:∀ (listed:Array Bool) (a1:Act) (w1:World),listed.size=ops.size→I6 P gt ops (Ct cl i0 j0 d T z m vx) E S i0 j0 d T z g s w a listed a1 w1→Region.ready .any ops listed=[]→Q .normal a1 w1:=fun listed a1 w1 hsz hst hr =>
  hQ a1 w1 (KP hcan hlenF (hstand listed a1 w1 hsz (HB hb hsz hr) hst) (HB hb hsz hr) hsz)
 intro fuel
 induction fuel with
 | zero =>
   intro listed a1 w1 hsz hc hst
   have hr:Region.ready .any ops listed=[]:=by
    cases hr:Region.ready .any ops listed with
    | nil=>rfl
    | cons i l =>
      exfalso
      obtain ⟨o,ho,hl,_⟩:=F9 (i:=i) (by rw [hr]; simp) hsz
      have hi:=(Array.getElem?_eq_some_iff.1 ho).1
      have h0:cnt ops.size listed=0:=by omega
      unfold cnt at h0
      have:=List.countP_eq_zero.1 h0 i (List.mem_range.2 hi)
      rw [Array.getD_eq_getD_getElem?,hl] at this
      simp at this
   exact ⟨hr,hend listed a1 w1 hsz hst hr⟩
 | succ fuel ih =>
   intro listed a1 w1 hsz hc hst
   refine ⟨hend listed a1 w1 hsz hst,fun i hi=>?_⟩
   obtain ⟨o,ho,hl,hed⟩:=F9 hi hsz
   have hilt:=(Array.getElem?_eq_some_iff.1 ho).1
   obtain ⟨⟨gL,eL,sL,eX,hI,hL,hT,hE1,hE,hM,hE2,hP⟩,hts,hdf,hclosed⟩:=hst
   have hnot:¬ (listed[i]? = some true):=by rw [hl]; simp
   have hpre:∀ j,((Aw ops.toList []).getD i 0).testBit j=true→listed[j]? = some true:=EY hb hclosed i o ho hed
   have hclo:∀ i j,listed[j]? = some true→((Aw ops.toList []).getD j 0).testBit i=true→listed[i]? = some true:=fun i j hj hbit=>by
    have hjlt:j < listed.size:=(Array.getElem?_eq_some_iff.1 hj).1
    have hoj:=Array.getElem?_eq_getElem (xs:=ops) (i:=j) (by omega)
    exact EY hb hclosed j _ hoj (hclosed j hj _ hoj) i hbit
   have hpost:∀ j,listed[j]? = some true→((Aw ops.toList []).getD j 0).testBit i=true→False:=fun j hj hbit=>hnot (hclo i j hj hbit)
   have hsz':(listed.setIfInBounds i true).size=ops.size:=by simpa using hsz
   have hcnt:cnt ops.size (listed.setIfInBounds i true)≤fuel:=by
    have:cnt ops.size (listed.setIfInBounds i true) < cnt ops.size listed:=by
     unfold cnt
     refine Hy (List.mem_range.2 hilt) (fun x hx=>?_) (by rw [Array.getD_eq_getD_getElem?,hl]; rfl) (by rw [Array.getD_eq_getD_getElem?,(BI hsz hilt i).2 (.inr rfl)]; rfl)
     rw [Array.getD_eq_getD_getElem?,Array.getElem?_setIfInBounds] at hx
     rw [Array.getD_eq_getD_getElem?]
     by_cases hxi:i=x
     · subst hxi; rw [hl]; rfl
     · rw [if_neg hxi] at hx; exact hx
    omega
   have hclosed':∀ (j:Nat),(listed.setIfInBounds i true)[j]? = some true→∀ (o:Oper),ops[j]? = some o→∀ ed∈o.after.toList,Region.binds .any ed=true→(listed.setIfInBounds i true)[ed.on]? = some true:=by
    intro j hj oj hoj ed hm hbd
    rw [BI hsz hilt]
    rcases (BI hsz hilt j).1 hj with h | rfl
    · exact .inl (hclosed j h oj hoj ed hm hbd)
    · rw [ho] at hoj; cases hoj; exact .inl (hed ed hm hbd)
   have hj0not:i=i0→¬ (listed[j0]? = some true):=fun hi0 hj=>by subst hi0; exact hpost j0 hj hF.bit
   by_cases hk1:i=i0
   · -- the object is made
     subst hk1
     rw [q1] at ho; cases ho
     have hci:(Ct cl i j0 d T z m vx)[i]? = some ⟨none,.mv (.c undef),none⟩:=by rw [hfg,if_neg (by have:=hF.lt; omega),if_pos rfl]
     have hstep:=hcan.step i _ hci
     have hEe:E (i+1)=E i∧S (i+1)=S i:=by
      simp only [evD1,BE,if_true,AOp.cls,BF,evOp,put] at hstep
      simp at hstep
      exact ⟨hstep.1.symm,hstep.2.symm⟩
     have hM2:=hM.put hcan hci hnot (v:=undef) (by rw [hEe.1]; rfl) (s2:=sL) (fun _=>rfl) (fun h=>by simp [AOp.cls] at h)
     obtain ⟨zv,z1,z2⟩:=BS (P:=P) q9
     have hgr:Grown w1 (w1.alloc (.cells zv.cells T)):=⟨rfl,rfl,by simp,fun k hk=>AU w1 _ hk⟩
     have hLg:=Le.grown hI hgr
     obtain ⟨p1,p2⟩:=GQ a1 (some d) (.pointer (some ⟨w1.heap.size,0,none⟩))
     have hVep:V gL sL (w1.alloc (.cells zv.cells T)) (.ep [] 0 .shut) (.pointer (some ⟨w1.heap.size,0,none⟩)):=by
      simp only [V]
      exact ⟨_,0,[],rfl,trivial,fun _=>⟨by simp [VL],fun j v hj=>by simp at hj,.inr (Nat.zero_le _)⟩⟩
     have hst':I6 P gt ops (Ct cl i j0 d T z m vx) E S i j0 d T z g s w a (listed.setIfInBounds i true) (a1.put oi.dst (.pointer (some ⟨w1.heap.size,0,none⟩))) (w1.alloc (.cells zv.cells T)):=by
      rw [q4]
      refine ⟨⟨gL,eL,sL,put eX (some d) (.ep [] 0 .shut),hI.grown hgr,hL.trans hLg,KJ (DU hLg hT) (by simp [J9,Nat.blt_eq]; rw [hts,hn]; exact hF.dn) hVep,fun t ht=>?_,hE,hM2.congr fun j=>(BI hsz hilt j).symm,fun hno=>?_,fun _=>?_⟩,by rw [p1,hts],by rw [p2,hdf],hclosed'⟩
      · simp only [put]
        rw [D5 10 eX d _ (by have:=hF.dn; have:=hT.1; rw [hts,hn] at this; omega),if_neg ht]
        exact hE1 t ht
      · exfalso
        refine hno ⟨(BI hsz hilt i).2 (.inr rfl),fun hj=>?_⟩
        rcases (BI hsz hilt j0).1 hj with h | h
        · exact hj0not rfl h
        · have:=hF.lt; omega
      · refine ⟨w1.heap.size,zv.cells,?_,Free.new hI _,hL.size,Ax w1 _,fun g s w=>by rw [q10]; exact B8 (z2 g s w)⟩
        have hlt:d < a1.tmps.size:=by rw [hts,hn]; exact hF.dn
        simp [Act.put,Array.getD_eq_getD_getElem?,hlt]
     unfold wpOpIn
     simp only [q1]
     rw [if_pos (by simp [Region.wanted,q5])]
     refine AG (rd:=rd) (by simp [q3]) (w':=w1.alloc (.cells zv.cells T)) (v:=.pointer (some ⟨w1.heap.size,0,none⟩)) (K:=fun v w'=>v=.pointer (some ⟨w1.heap.size,0,none⟩)∧w'=w1.alloc (.cells zv.cells T)) ?_ ⟨rfl,rfl⟩ _ Q ?_
     · simp only [execOp,q3]
       refine Aj ?_
       simp [Instr.alloc,z1,HG]
     · rintro u w2 ⟨rfl,rfl⟩
       exact ih _ _ _ hsz' hcnt hst'
   by_cases hk2:i=j0
   · -- it is written
     subst hk2
     rw [q2] at ho; cases ho
     have hi0:listed[i0]? = some true:=hpre i0 hF.bit
     obtain ⟨b,arr,hraw,hfree,hbw,hheap,hzz⟩:=hP ⟨hi0,hnot⟩
     have hci:(Ct cl i0 i d T z m vx)[i]? = some ⟨some d,.adp T z m vx,none⟩:=by rw [hfg,if_pos rfl]
     have hsL:=hM.at2 hcan hci rfl hnot hpre hpost
     have hreads:=hM.reads hcan hci hnot hpre hpost
     have hstep:=hcan.step i _ hci
     obtain ⟨v,hv,hEe⟩:∃ v,evOp self (E i) (S i) (.adp T z m vx)=some (v,S (i+1))∧E (i+1)=put (E i) (some d) v:=by
      rcases D1 hstep with ⟨_,_,v,h1,h2⟩ | ⟨h1,_⟩
      · exact ⟨v,h1,h2⟩
      · simp [BE] at h1
     have hord:∀ j e,(Ct cl i0 i d T z m vx)[j]? = some e→e.op.cls=2→j≠i→(j < i↔listed[j]? = some true):=fun j e hd hj hne=>by
      rcases Nat.lt_trichotomy j i with hlt | rfl | hlt
      · exact ⟨fun _=>hpre j (BH hcan hlt hd hci hj rfl),fun _=>hlt⟩
      · exact absurd rfl hne
      · exact ⟨fun hh=>by omega,fun hLj=>(hpost j hLj (BH hcan hlt hci hd rfl hj)).elim⟩
     have hM2:=hM.put hcan hci hnot hEe (s2:=S (i+1)) (fun h=>absurd rfl h) (fun _=>⟨rfl,hord⟩)
     simp only [evOp] at hv
     split at hv<;>try (cases hv; done)
     rename_i s3 hs3
     rw [← hsL] at hs3 hv
     cases hv
     have hvx:vx.ev (E i)=vx.ev eX:=by
      refine (X.ev_congr fun t ht=>?_).symm
      have hdr:t≠d:=fun hh=>hF.reads i _ hci (by subst hh; simpa [Op.reads,AOp.tmps] using ht)
      rw [hE1 t hdr]
      exact hreads t (by simpa [Op.reads,AOp.tmps] using ht)
     rw [hvx] at hs3
     have hVx:V gL sL w1 (vx.ev eX) (a1.eval xo):=AM (hG.mono hL) hT q12
     have hI2:=Inv.adopt hI hfree hheap (hzz gL sL w1)
     have hL0:=Le0.adopt hI b (.cells T z)
     have hVp:V (gL.adopt sL b) (sL.new (.cells T z)) w1 (.p sL.nb 0) (.pointer (some ⟨b,0,none⟩)):=by
      simp [V,St.new,G.adopt]
     obtain ⟨w',e1,g3,hI3,hL3,_,hE3⟩:=st_ok (P:=P) hI2 q11 hVp (E3 hL0 _ _ hVx) hs3
     have hLall:Le g s w g3 (S (i+1)) w':=Le.adopt hL hI hbw hL3
     have hEall:Esc s (S (i+1)):=Esc.trans hL.nb hE (Esc.trans (by simp [St.new]) (HF sL _) hE3)
     have hst':I6 P gt ops (Ct cl i0 i d T z m vx) E S i0 i d T z g s w a (listed.setIfInBounds i true) (a1.put oj.dst Go.undef) w':=by
      rw [q7]
      have hgd:∀ t,(put eX (some d) (.p sL.nb 0)).get t=if t=d then .p sL.nb 0 else eX.get t:=fun t=>by
       simp only [put]
       rw [D5 10 eX d _ (by have:=hF.dn; have:=hT.1; rw [hts,hn] at this; omega)]
      have hgd2:∀ t,(put eL (some d) (.p sL.nb 0)).get t=if t=d then .p sL.nb 0 else eL.get t:=fun t=>by
       simp only [put]
       rw [D5 10 eL d _ (by have:=hF.dn; have:=hT.1; rw [hts,hn] at this; omega)]
      refine ⟨⟨g3,put eL (some d) (.p sL.nb 0),S (i+1),put eX (some d) (.p sL.nb 0),hI3,hLall,⟨hT.1,fun t=>?_⟩,fun t ht=>?_,hEall,hM2.congr fun j=>(BI hsz hilt j).symm,fun _=>?_,fun hh=>?_⟩,hts,hdf,hclosed'⟩
      · rw [hgd]
        by_cases ht:t=d
        · subst ht; rw [if_pos rfl]
          show V g3 (S (i+1)) w' _ (a1.tmps.getD t Go.undef)
          rw [hraw]; exact CY hL3 _ _ hVp
        · rw [if_neg ht]; exact CY hL3 _ _ (E3 hL0 _ _ (hT.2 t))
      · rw [hgd,hgd2,if_neg ht,if_neg ht]; exact hE1 t ht
      · rw [hgd,hgd2,if_pos rfl,if_pos rfl]
      · exact absurd ((BI hsz hilt i).2 (.inr rfl)) hh.2
     unfold wpOpIn
     simp only [q2]
     rw [if_pos (by simp [Region.wanted,q8])]
     refine Gq (rd:=rd) (by simp [q6]) (w':=w') (K:=fun v w2=>v=Go.undef∧w2=w') ?_ ⟨rfl,rfl⟩ _ Q ?_
     · simp only [execOp,q6]
       have he:a1.eval (.tmp d)=.pointer (some ⟨b,0,none⟩):=hraw
       simp [he,e1]
     · rintro u w2 ⟨rfl,rfl⟩
       exact ih _ _ _ hsz' hcnt hst'
   obtain ⟨c,hci0,hdst,hop,hdok,hgd⟩:=hget i o (by simpa using ho)
   have hci:(Ct cl i0 j0 d T z m vx)[i]? = some c:=by rw [hfg,if_neg hk2,if_neg hk1]; exact hci0
   have hreads:=hM.reads hcan hci hnot hpre hpost
   have hnd:d∉c.reads:=hF.reads i c hci
   have hcd:c.dst≠some d:=fun hh=>hk2 (hcan.unique hci (by rw [hfg,if_pos rfl]) hh rfl)
   have hod:o.dst≠some d:=by rw [← hdst]; exact hcd
   have hreadX:∀ t∈c.reads,eX.get t=(E i).get t:=fun t ht=>by
    rw [hE1 t fun hh=>hnd (hh ▸ ht)]; exact hreads t ht
   have hpend:((listed.setIfInBounds i true)[i0]? = some true∧¬ (listed.setIfInBounds i true)[j0]? = some true)↔(listed[i0]? = some true∧¬ listed[j0]? = some true):=by
    rw [BI hsz hilt,BI hsz hilt]
    constructor
    · rintro ⟨h1 | h1,h2⟩
      · exact ⟨h1,fun h=>h2 (.inl h)⟩
      · exact absurd h1.symm hk1
    · rintro ⟨h1,h2⟩
      exact ⟨.inl h1,fun h=>h.elim h2 fun h=>hk2 h.symm⟩
   have hst':∀ {g2:G} {v:AV} {s2:St} {u:Value} {w2:World},Inv (CRof P gt) g2 s2 w2→Le gL sL w1 g2 s2 w2→V g2 s2 w2 v u→Esc sL s2→Mid (Ct cl i0 j0 d T z m vx) E S (fun j=>listed[j]? = some true∨j=i) (put eL c.dst v) s2 →
       I6 P gt ops (Ct cl i0 j0 d T z m vx) E S i0 j0 d T z g s w a (listed.setIfInBounds i true) (a1.put o.dst u) w2:=by
    intro g2 v s2 u w2 hI2 hL2 hV hEs hM2
    obtain ⟨p1,p2⟩:=GQ a1 o.dst u
    have hX2:∀ t,(put eX c.dst v).get t=if c.dst=some t then v else eX.get t:=fun t=>HA (hcan.small i c · hci) t
    have hL2g:∀ t,(put eL c.dst v).get t=if c.dst=some t then v else eL.get t:=fun t=>HA (hcan.small i c · hci) t
    refine ⟨⟨g2,put eL c.dst v,s2,put eX c.dst v,hI2,hL.trans hL2,?_,fun t ht=>?_,Esc.trans hL.nb hE hEs,hM2.congr fun j=>(BI hsz hilt j).symm,fun hno=>?_,fun hh=>?_⟩,by rw [p1,hts],by rw [p2,hdf],hclosed'⟩
    · rw [hdst]
      exact KJ (DU hL2 hT) (by rw [hts,hn]; exact hdok) hV
    · rw [hX2,hL2g]
      split
      · rfl
      · exact hE1 t ht
    · rw [hX2,hL2g,if_neg hcd,if_neg hcd]
      exact hE2 fun hh=>hno (hpend.2 hh)
    · obtain ⟨b,arr,r1,r2,r3,r4,r5⟩:=hP (hpend.1 hh)
      obtain ⟨f1,f2⟩:=r2.mono hL2
      refine ⟨b,arr,?_,f1,r3,by rw [f2]; exact r4,r5⟩
      cases hod2:o.dst with
      | none=>simpa [Act.put] using r1
      | some t =>
        have htd:t≠d:=fun hh=>hod (by rw [hod2,hh])
        simp only [Act.put]
        rw [Array.getD_eq_getD_getElem?] at r1 ⊢
        rw [Array.getElem?_setIfInBounds]
        rw [if_neg htd]; exact r1
   have hw:=JQ (o:=o) (ops:=ops) (gd:=c.guard) hT (by
    cases hg:o.guard with
    | none=>rw [hg] at hgd; exact hgd
    | some jw =>
      obtain ⟨j,want⟩:=jw
      rw [hg] at hgd
      obtain ⟨oj,d,q1,q2,q3,q4⟩:=hgd
      exact ⟨oj,d,q1,q2,by rw [hts,hn]; exact q3,q4⟩)
   have hwants:BE eX c.guard=BE (E i) c.guard:=by
    cases hg:c.guard with
    | none=>rfl
    | some tw =>
      obtain ⟨t,wv⟩:=tw
      simp only [BE]
      rw [hreadX t (by simp [Op.reads,hg])]
   have hopr:∀ t∈c.op.tmps,eX.get t=(E i).get t:=fun t ht=>hreadX t (by
    unfold Op.reads
    split
    · exact ht
    · exact List.mem_cons_of_mem _ ht)
   unfold wpOpIn
   simp only [ho]
   rw [hw,hwants]
   rcases D1 (hcan.step i c hci) with ⟨hwt,hq,v,hv,he⟩ | ⟨hwf,he,hs⟩
   · rw [if_pos hwt]
     obtain ⟨s2,hv2,h0,h2⟩:∃ s2,evOp self eX sL c.op=some (v,s2)∧(c.op.cls≠2→s2=sL)∧(c.op.cls=2→s2=S (i+1)):=by
      rw [F7 hopr]
      by_cases hc2:c.op.cls=2
      · have:=hM.at2 hcan hci hc2 hnot hpre hpost
        subst this
        exact ⟨_,hv,fun h=>absurd hc2 h,fun _=>rfl⟩
      · have hq':=hq.resolve_left hc2
        obtain ⟨k1,k2⟩:=D0 hc2 hq' hv
        by_cases hc0:c.op.cls=0
        · exact ⟨sL,k2 hc0 sL,fun _=>rfl,fun h=>absurd h hc2⟩
        · have hc1:c.op.cls=1:=by
           have:c.op.cls≤2:=by cases c.op<;>simp only [AOp.cls]<;>(try split)<;>omega
           omega
          obtain ⟨k,b1,b2,hsk⟩:=hM.at1 hcan hclo hci hc1 hpre hpost
          obtain ⟨q1,s'',q2⟩:=hcan.wok i c hci hc1 hwt v _ hv k b1 b2
          have:=(D0 hc2 q1 q2).1
          subst this
          rw [hsk]
          exact ⟨_,q2,fun _=>rfl,fun h=>absurd h hc2⟩
     have hord:c.op.cls=2→∀ j e,(Ct cl i0 j0 d T z m vx)[j]? = some e→e.op.cls=2→j≠i→(j < i↔listed[j]? = some true):=fun h j e hd hj hne=>by
      rcases Nat.lt_trichotomy j i with hlt | rfl | hlt
      · exact ⟨fun _=>hpre j (BH hcan hlt hd hci hj h),fun _=>hlt⟩
      · exact absurd rfl hne
      · exact ⟨fun hh=>by omega,fun hLj=>(hpost j hLj (BH hcan hlt hci hd h hj)).elim⟩
     have hM2:=hM.put hcan hci hnot he h0 (fun h=>⟨h2 h,hord h⟩)
     cases hco:GR P gt pop o with
     | none=>rw [hop,hco] at hv2; simp [evOp] at hv2
     | some aop =>
       rw [hop,hco,Option.getD_some] at hv2
       refine QK (rd:=rd) hS hN hX hI (hG.mono hL) hT hco hv2 _ Q ?_
       rintro u w2 ⟨g2,hI2,hL2,hV2,hEs⟩
       exact ih _ _ _ hsz' hcnt (hst' hI2 hL2 hV2 hEs hM2)
   · rw [if_neg (by rw [hwf]; simp)]
     refine ⟨fun _ _=>trivial,?_⟩
     have hord:c.op.cls=2→∀ j e,(Ct cl i0 j0 d T z m vx)[j]? = some e→e.op.cls=2→j≠i→(j < i↔listed[j]? = some true):=fun h j e hd hj hne=>by
      rcases Nat.lt_trichotomy j i with hlt | rfl | hlt
      · exact ⟨fun _=>hpre j (BH hcan hlt hd hci hj h),fun _=>hlt⟩
      · exact absurd rfl hne
      · exact ⟨fun hh=>by omega,fun hLj=>(hpost j hLj (BH hcan hlt hci hd h hj)).elim⟩
     have hM2:=hM.put hcan hci hnot he (s2:=sL) (fun _=>rfl) (fun h=>⟨by rw [hs]; exact hM.at2 hcan hci h hnot hpre hpost,hord h⟩)
     exact ih _ _ _ hsz' hcnt (hst' hI (Le.refl _ _ _) (by simp [undef,Go.undef,V,VL]) (Esc.refl _) hM2)
theorem QY {n i j d T m:Nat} {z:List AV} {v:X} {ops:Array Oper} {cl:List Op} (h:KI P gt ops i j=some (d,T,z,m,v)) (hk:NC (Aw ops.toList []) i j d n (Ct cl i j d T z m v)=true):Fuse P gt ops cl i j d T m z v n:=by
 unfold NC at hk
 simp only [Bool.and_eq_true,Nat.blt_eq] at hk
 obtain ⟨h1,h2,h3,h4⟩:=hk
 refine ⟨LQ h,h1,h2,h3,fun k c hc=>?_⟩
 have:=List.all_eq_true.1 h4 c (List.mem_of_getElem? hc)
 simpa using this
theorem QZ (hS:SelfOk P gt self) (hN:Bq P) (hX:Ctx P gt prog) {pop:Bool×Nat×String} {n id:Nat} {ops:Array Oper} {cl0:List Op} (hcl:Di P gt pop n ops ops.toList=some cl0)
    {i0 j0 d0 T m:Nat} {z:List AV} {vx:X} (hF:Fuse P gt ops cl0 i0 j0 d0 T m z vx n) {wins:List (Nat×Nat×Nat)} (hd:Hv ops (Ct cl0 i0 j0 d0 T z m vx) wins=true)
    {e e':Tr} {s s':St} (h:evD self (Ct cl0 i0 j0 d0 T z m vx) wins e s=some (e',s')) {g:G} {w:World} {a:Act} (hI:Inv (CRof P gt) g s w) (hG:GT gt g w) (hT:VT g s w e a.tmps) (hz:a.tmps.size=n) (hn:n < 1000) (hm:P.follows .mixedOrders=true)
    {Q:Exit→Act→World→Prop} (hQ:∀ a' w',GH P gt g s w a e' s' a' w'→Q .normal a' w'):(Code.region id ops true).wpIn (Ee rd) 0 P Q a w:=by
 obtain ⟨hlen,hget⟩:=D7 hcl
 have hj0:j0 < ops.size:=by obtain ⟨_,_,_,_,_,_,q,_⟩:=hF.at_; exact (Array.getElem?_eq_some_iff.1 q).1
 have hfg:=KV (cl:=cl0) (d:=d0) (T:=T) (m:=m) (z:=z) (vx:=vx) hF.lt (by rw [hlen]; simpa using hj0)
 have hlenF:(Ct cl0 i0 j0 d0 T z m vx).length=ops.size:=by simp [Ct,hlen]
 have hFd:=hF.dn
 generalize hcl':Ct cl0 i0 j0 d0 T z m vx=cl at *
 unfold Hv at hd
 rw [Bool.and_eq_true,Bool.and_eq_true] at hd
 obtain ⟨⟨hb,hall⟩,hsane⟩:=hd
 unfold evD at h
 split at h<;>try (cases h; done)
 rename_i tr htr
 split at h<;>try (cases h; done)
 rename_i hchk
 obtain ⟨E,S,e0,s0,hstep,htrace,hlast⟩:=Fs htr
 rw [hlast] at h
 have hes:=Option.some.inj h
 have e1:E cl.length=e':=congrArg Prod.fst hes
 have s1:S cl.length=s':=congrArg Prod.snd hes
 have hwins:=Hx htrace hsane hchk
 have hcan:Canon self cl E S (Aw ops.toList []) (winF wins):=by
  refine ⟨hstep,fun i c d hc hcd=>?_,fun i j o p hij ho hp=>?_,fun i c hc hcls=>?_,fun i hi=>?_⟩
  · rw [hfg] at hc
    by_cases h1:i=j0
    · rw [if_pos h1] at hc; cases hc; cases hcd; omega
    · rw [if_neg h1] at hc
      by_cases h2:i=i0
      · rw [if_pos h2] at hc; cases hc; cases hcd
      · rw [if_neg h2] at hc
        have hi:=(List.getElem?_eq_some_iff.1 hc).1
        obtain ⟨c',k1,k2,_,k4,_⟩:=hget i _ (List.getElem?_eq_getElem (by omega))
        rw [hc] at k1; cases k1
        rw [← k2,hcd] at k4
        have:d < n:=by simpa [J9,Nat.blt_eq] using k4
        omega
  · have:=Ft hall i j o p hij ho hp
    simpa using this
  · rcases GZ (wins:=wins) (i:=i) with hw | hw
    · intro hwt v s2 hv k hk1 hk2
      rw [hw] at hk1 hk2
      have:k=i:=by simp only at hk1 hk2; omega
      subst this
      refine ⟨?_,s2,hv⟩
      rcases D1 (hstep k c hc) with ⟨_,hq,_⟩ | ⟨hwf,_⟩
      · rcases hq with hq | hq
        · omega
        · exact hq
      · rw [hwt] at hwf; cases hwf
    · exact hwins _ hw c hc
  · rcases GZ (wins:=wins) (i:=i) with hw | hw
    · rw [hw]; simp only; omega
    · have:=List.all_eq_true.1 hsane _ hw
      simp only [Bool.and_eq_true] at this
      have h1:=Nat.le_of_ble_eq_true this.1
      have h2:=Nat.le_of_ble_eq_true this.2.1
      have h3:=Nat.le_of_ble_eq_true this.2.2
      exact ⟨h1,h2,h3⟩
 subst e1 s1
 subst hcl'
 refine wpIn_region_any hm (anyF hS hN hX hcl hb hF hcan hz hG hQ ops.size _ _ _ (by simp) ?_ ?_)
 · unfold cnt
   exact Nat.le_trans List.countP_le_length (by simp)
 · have hI':Inv (CRof P gt) g s { w with drawn:=w.drawn+1 }:=Inv.heap (w:=w) rfl hI
   have hL':Le g s w g s { w with drawn:=w.drawn+1 }:=Le.heap (w:=w) rfl
   refine ⟨⟨g,e,s,e,hI',hL',DU hL' hT,fun _ _=>rfl,Esc.refl _,?_,fun _=>rfl,fun hh=>absurd hh.1 D8⟩,rfl,rfl,fun j hj=>absurd hj D8⟩
   refine ⟨fun t j c hL=>absurd hL D8,fun t _=>by rw [e0],fun k hk hh=>?_⟩
   rw [← s0]
   refine (hcan.state (Nat.zero_le _) hk fun j c _ hlt hc hj=>?_).symm
   exact absurd ((hh j c hc hj).1 hlt) D8
end
end Go.Proofs.Ytfpoihibfajhlaa.Am

namespace Go.Proofs.Ytfpoihibfajhlaa.Am
section
variable {P:Program} {gt:Nat→Option (List AV)} {prog:Nat→Option Fun} {self:Self}
theorem Ls {CR:Nat→Code→C→Prop} {c:C} {x:Ex} {e':Tr} {s':St} {w:World} {tmps:Array Value} (hn:tmps.size < 1000):∀ {vs:List Nat} {e:Tr} {s:St} {g:G},(∀ v∈vs,v < tmps.size)→evC self (Hh vs c) e s=some (x,e',s')→Inv CR g s w→VT g s w e tmps →
    ∃ g1 e1 s1,evC self c e1 s1=some (x,e',s')∧Inv CR g1 s1 w∧Le g s w g1 s1 w∧VT g1 s1 w e1 tmps∧Esc s s1
 | [],e,s,g,_,h,hI,hT=>⟨g,e,s,h,hI,Le.refl _ _ _,hT,Esc.refl _⟩
 | v :: vs,e,s,g,hv,h,hI,hT=>by
   simp only [Hh,evC] at h
   cases ht:Hc s (e.get v) with
   | none=>rw [ht] at h; cases h
   | some p =>
     obtain ⟨r,s1⟩:=p
     rw [ht] at h
     simp only at h
     obtain ⟨g1,hI1,hL1,hV1,hE1⟩:=Lb hI (hT.2 v) ht
     have hlt:=hv v (by simp)
     have hT1:VT g1 s1 w (e.set 10 v r) tmps:=by
      refine ⟨hT.1,fun t=>?_⟩
      rw [D5 10 e v r (by omega)]
      by_cases htv:t=v
      · subst htv; rw [if_pos rfl]; exact hV1
      · rw [if_neg htv]; exact CY hL1 _ _ (hT.2 t)
     obtain ⟨g2,e2,s2,k1,k2,k3,k4,k5⟩:=Ls hn (fun v hv'=>hv v (List.mem_cons_of_mem _ hv')) h hI1 hT1
     exact ⟨g2,e2,s2,k1,k2,hL1.trans k3,k4,Esc.trans hL1.nb hE1 k5⟩
theorem Mj {pops:List Nat} {n id:Nat}:∀ v∈thawsOf pops n id,v < n:=by
 intro v hv
 simp only [thawsOf,List.mem_filterMap] at hv
 obtain ⟨x,_,hx⟩:=hv
 split at hx
 · rename_i h
   cases hx
   rw [Bool.and_eq_true,Nat.blt_eq] at h
   exact h.2
 · cases hx
theorem Em (hS:SelfOk P gt self) (hN:Bq P) (hX:Ctx P gt prog):∀ (code:Code) {e:Tr} {s:St} {x:Ex} {e':Tr} {s':St} {pops:List Nat} {n:Nat},n < 1000→evC self (Bz P gt pops n code) e s=some (x,e',s') →
    ∀ {g:G} {w:World} {rd:Option Nat} {a:Act},(rd.isSome=true→noRf code=true)→Inv (CRof P gt) g s w→GT gt g w→VT g s w e a.tmps→a.tmps.size=n →
    code.wpIn (Ee rd) 0 P (BT P gt g s w rd a x e' s') a w∧∀ b,code=.loop b→Dq (Ee rd) 0 P b (BT P gt g s w rd a x e' s') a w
 | .skip,e,s,x,e',s',pops,n,hn,h,g,w,rd,a,hr,hI,hG,hT,hz=>by
   simp only [Bz,evC] at h; cases h
   exact ⟨wpIn_skip (.here trivial hI hT),fun b hb=>by cases hb⟩
 | .label _,e,s,x,e',s',pops,n,hn,h,g,w,rd,a,hr,hI,hG,hT,hz=>by
   refine ⟨?_,fun b hb=>by cases hb⟩
   simp only [Bz,evC] at h; first | (cases h; done) | (cases h; exact wpIn_label (.here trivial hI hT))
 | .region id ops draw,e,s,x,e',s',pops,n,hn,h,g,w,rd,a,hr,hI,hG,hT,hz=>by
   refine ⟨?_,fun b hb=>by cases hb⟩
   simp only [Bz] at h
   obtain ⟨g1,e1,s1,h,hI1,hL1,hT1,hE1⟩:=Ls (by omega) (by rw [hz]; exact Mj) h hI hT
   have hG1:=GT.mono hL1 hG
   refine wpIn_mono (Q:=BT P gt g1 s1 w rd a x e' s') ?_ fun ex a' w' hp=>BT.trans hL1 hE1 rfl (fun _=>rfl) ⟨[],by simp,by simp,List.Pairwise.nil⟩ hp
   clear hI hG hT
   split at h
   · rename_i l hl
     cases draw with
     | true =>
       simp only [if_true] at h
       by_cases hd:Hv ops l (Lu (Aw ops.toList []) l 0 l)=true
       · simp only [hd,if_true,evC] at h
         split at h<;>try (cases h; done)
         rename_i e2 s2 hops
         cases h
         exact QR hS hN hX hl hd hops hI1 hG1 hT1 hz hn hX.mixed fun a' w' hp=>.of_ops trivial hp
       · simp only [hd,Bool.false_eq_true,if_false] at h
         unfold Rj at h
         split at h
         case h_2=>simp [evC] at h
         split at h
         case h_2=>simp [evC] at h
         rename_i dd TT zz mm vv hfa
         simp only at h
         split at h
         case isFalse=>simp [evC] at h
         rename_i hk
         rw [Bool.and_eq_true] at hk
         simp only [evC] at h
         split at h<;>try (cases h; done)
         rename_i e2 s2 hops
         cases h
         exact QZ hS hN hX hl (QY hfa hk.2) hk.1 hops hI1 hG1 hT1 hz hn hX.mixed fun a' w' hp=>.of_ops trivial hp
     | false =>
       simp only [Bool.false_eq_true,if_false,evC] at h
       split at h<;>try (cases h; done)
       rename_i e2 s2 hops
       cases h
       refine wpIn_region ?_
       rw [show List.range ops.size=List.range' 0 (ops.size - 0) by simp [List.range_eq_range']]
       exact NA hS hN hX ops.toList 0 (by simp) hl hops hI1 hG1 hT1 hz fun a' w' hp=>.of_ops trivial hp
   · simp [evC] at h
 | .seq c d,e,s,x,e',s',pops,n,hn,h,g,w,rd,a,hr,hI,hG,hT,hz=>by
   refine ⟨?_,fun b hb=>by cases hb⟩
   have hr1:rd.isSome=true→noRf c=true:=fun hh=>by have:=hr hh; simp only [noRf,Bool.and_eq_true] at this; exact this.1
   have hr2:rd.isSome=true→noRf d=true:=fun hh=>by have:=hr hh; simp only [noRf,Bool.and_eq_true] at this; exact this.2
   simp only [Bz,evC] at h
   cases hc:evC self (Bz P gt pops n c) e s with
   | none=>rw [hc] at h; cases h
   | some t =>
     obtain ⟨x1,e1,s1⟩:=t
     rw [hc] at h
     refine wpIn_seq (wpIn_mono (Em hS hN hX c hn hc hr1 hI hG hT hz).1 ?_)
     rintro ex a1 w1 hp
     cases x1 with
     | n =>
       simp only at h
       obtain ⟨hex,hsz,⟨g1,hI1,hL1,hT1,hE1⟩,hd1,hd2⟩:=hp
       cases ex<;>simp only [E5] at hex
       simp only [Exit.then]
       exact wpIn_mono (Em hS hN hX d hn h hr2 hI1 (hG.mono hL1) hT1 (by rw [hsz]; exact hz)).1 fun ex a' w' hp=>hp.trans hL1 hE1 hsz hd1 hd2
     | x i =>
       simp only at h; cases h
       obtain ⟨hex,_⟩:=id hp
       cases ex<;>simp only [E5] at hex
       exact hp
     | r =>
       simp only at h; cases h
       obtain ⟨hex,_⟩:=id hp
       cases ex<;>simp only [E5] at hex
       exact hp
 | .cond o c d,e,s,x,e',s',pops,n,hn,h,g,w,rd,a,hr,hI,hG,hT,hz=>by
   refine ⟨?_,fun b hb=>by cases hb⟩
   have hr1:rd.isSome=true→noRf c=true:=fun hh=>by have:=hr hh; simp only [noRf,Bool.and_eq_true] at this; exact this.1
   have hr2:rd.isSome=true→noRf d=true:=fun hh=>by have:=hr hh; simp only [noRf,Bool.and_eq_true] at this; exact this.2
   simp only [Bz] at h
   split at h
   · rename_i cx hcx
     have hv:=AM hG hT hcx
     simp only [evC] at h
     split at h<;>try (cases h; done)
     · rename_i hb
       rw [hb] at hv; simp only [V] at hv
       exact wpIn_cond_true hv (Em hS hN hX c hn h hr1 hI hG hT hz).1
     · rename_i hb
       rw [hb] at hv; simp only [V] at hv
       exact wpIn_cond_false hv (Em hS hN hX d hn h hr2 hI hG hT hz).1
   · simp [evC] at h
 | .block bi c,e,s,x,e',s',pops,n,hn,h,g,w,rd,a,hr,hI,hG,hT,hz=>by
   refine ⟨?_,fun b hb=>by cases hb⟩
   have hr1:rd.isSome=true→noRf c=true:=fun hh=>by have:=hr hh; simp only [noRf] at this; exact this
   simp only [Bz,evC] at h
   cases hc:evC self (Bz P gt pops n c) e s with
   | none=>rw [hc] at h; cases h
   | some t =>
     obtain ⟨x1,e1,s1⟩:=t
     rw [hc] at h
     refine wpIn_block (wpIn_mono (Em hS hN hX c hn hc hr1 hI hG hT hz).1 ?_)
     rintro ex a1 w1 hp
     obtain ⟨hex,_⟩:=id hp
     cases x1 with
     | n =>
       simp only at h; cases h
       cases ex<;>simp only [E5] at hex
       exact hp
     | r =>
       simp only at h; cases h
       cases ex<;>simp only [E5] at hex
       exact hp
     | x i =>
       simp only at h
       cases ex<;>simp only [E5] at hex
       subst hex
       simp only [Exit.inBlock]
       split at h
       · rename_i hi; cases h
         rw [if_pos hi]; exact hp.other trivial
       · rename_i hi; cases h
         rw [if_neg hi]; exact hp
 | .loop c,e,s,x,e',s',pops,n,hn,h,g,w,rd,a,hr,hI,hG,hT,hz=>by
   have hr1:rd.isSome=true→noRf c=true:=fun hh=>by have:=hr hh; simp only [noRf] at this; exact this
   have key:Dq (Ee rd) 0 P c (BT P gt g s w rd a x e' s') a w:=by
    simp only [Bz,evC] at h
    cases hc:evC self (Bz P gt pops n c) e s with
    | none=>rw [hc] at h; cases h
    | some t =>
      obtain ⟨x1,e1,s1⟩:=t
      rw [hc] at h
      refine JS (wpIn_mono (Em hS hN hX c hn hc hr1 hI hG hT hz).1 ?_)
      rintro ex a1 w1 hp
      cases x1 with
      | n =>
        simp only at h
        obtain ⟨hex,hsz,⟨g1,hI1,hL1,hT1,hE1⟩,hd1,hd2⟩:=hp
        cases ex<;>simp only [E5] at hex
        simp only [Exit.then]
        have:=(hS.code _ _ _ _ _ _ h n pops (.loop c) hn rfl g1 w1 rd a1 hr hI1 (hG.mono hL1) hT1 (by rw [hsz]; exact hz)).2 c rfl
        exact this.mono fun ex a' w' hp=>hp.trans hL1 hE1 hsz hd1 hd2
      | x i =>
        simp only at h; cases h
        obtain ⟨hex,_⟩:=id hp
        cases ex<;>simp only [E5] at hex
        exact hp
      | r =>
        simp only at h; cases h
        obtain ⟨hex,_⟩:=id hp
        cases ex<;>simp only [E5] at hex
        exact hp
   exact ⟨LK key,fun b hb=>by cases hb; exact key⟩
 | .rangeFunc f ps c d,e,s,x,e',s',pops,n,hn,h,g,w,rd,a,hr,hI,hG,hT,hz=>by
   refine ⟨?_,fun b hb=>by cases hb⟩
   cases rd with
   | some r=>have:=hr rfl; simp [noRf] at this
   | none =>
     simp only [Bz] at h
     split at h
     · rename_i fx hfx
       split at h
       · rename_i hcond
         simp only [Bool.and_eq_true,List.all_eq_true,Nat.blt_eq] at hcond
         exact rf_ok hS hN hI hG hT hz hn hfx hcond.1.1 hcond.1.2 hcond.2 h
       · simp [evC] at h
     · simp [evC] at h
 | .exit id,e,s,x,e',s',pops,n,hn,h,g,w,rd,a,hr,hI,hG,hT,hz=>by
   simp only [Bz,evC] at h; cases h
   exact ⟨wpIn_exit (.here rfl hI hT),fun b hb=>by cases hb⟩
 | .ret,e,s,x,e',s',pops,n,hn,h,g,w,rd,a,hr,hI,hG,hT,hz=>by
   simp only [Bz,evC] at h; cases h
   exact ⟨wpIn_ret (.here trivial hI hT),fun b hb=>by cases hb⟩
 | .scope c,e,s,x,e',s',pops,n,hn,h,g,w,rd,a,hr,hI,hG,hT,hz=>by
   refine ⟨?_,fun b hb=>by cases hb⟩
   have hr1:rd.isSome=true→noRf c=true:=fun hh=>by have:=hr hh; simp only [noRf] at this; exact this
   simp only [Bz] at h
   refine Mh (Em hS hN hX c hn h hr1 hI hG hT hz).1 ?_
   rintro l a1 w1 ⟨hex,_⟩
   cases x<;>simp only [E5] at hex
 | .goto _,_,_,_,_,_,_,_,_,h,_,_,_,_,_,_,_,_,_=>by simp [Bz,evC] at h
 | .refuse _,_,_,_,_,_,_,_,_,h,_,_,_,_,_,_,_,_,_=>by simp [Bz,evC] at h
end
end Go.Proofs.Ytfpoihibfajhlaa.Am

namespace Go.Proofs.Ytfpoihibfajhlaa.Am
section
variable {P:Program} {gt:Nat→Option (List AV)} {prog:Nat→Option Fun} {self:Self} {g:G} {s s':St} {w w0 w1:World} {e:Tr}
def Gone (w0 w1 w2:World):Prop:=w2.heap.size=w1.heap.size∧(∀ b:Nat,w2.heap[b]? = w1.heap[b]? ∨ (w0.heap.size≤b∧∃ d,w1.heap[b]? = some (.deferred d)))∧(w2.os=w1.os∧w2.output=w1.output)
theorem HU {F:Fence} {n:Nat} {fn:Func} {tmps:Array Value} {R:Ending→World→Prop} (h:∀ w2,Gone w0 w1 w2→∃ v,(results fn tmps).run P w2=.ok v w2∧R (.returned v) w2) :
    ∀ (ds:List Deferred) (w:World),Gone w0 w1 w→(∀ d∈ds,∃ r,d={ target:=.collected r,args:=#[] }∧w0.heap.size≤r∧w.heap[r]? = some (.deferred (some [])))→ds.Pairwise (fun d d'=>d≠d') →
     LeavesInM F n P fn tmps R ds .returning w
 | [],w,hg,_,_=>h w hg
 | d :: ds,w,hg,hd,hp=>by
   obtain ⟨r,rfl,hr,hw⟩:=hd d (by simp)
   have hw':Gone w0 w1 { w with heap:=w.heap.setIfInBounds r (.deferred none) }:=by
    refine ⟨by simpa using hg.1,fun b=>?_,hg.2.2⟩
    by_cases hb:b=r
    · subst hb
      refine .inr ⟨hr,?_⟩
      rcases hg.2.1 b with h1 | ⟨_,h1⟩
      · exact ⟨_,by rw [← h1]; exact hw⟩
      · exact h1
    · simp only [Array.getElem?_setIfInBounds]; rw [if_neg (Ne.symm hb)]; exact hg.2.1 b
   have hp':=List.pairwise_cons.1 hp
   refine ⟨by simp,.inl ⟨r,{ w with heap:=w.heap.setIfInBounds r (.deferred none) },rfl,?_,?_⟩⟩
   · simp [Instr.takeDeferred,getObj,setObj,Sem.run,hw]
   · refine HU h ds _ hw' (fun d' hd'=>?_) hp'.2
     obtain ⟨r',rfl,hr',hw'⟩:=hd d' (by simp [hd'])
     refine ⟨r',rfl,hr',?_⟩
     have hne:r≠r':=by
      intro hh; subst hh
      exact hp'.1 _ hd' rfl
     simp only [Array.getElem?_setIfInBounds]; rw [if_neg hne]; exact hw'
theorem KT:∀ (l:List AV) (n:Nat) (t:Tr),n+l.length < 1023→∀ i,(B7 n l t).get i=if n≤i then (match l[i - n]? with | some v=>v | none=>t.get i) else t.get i
 | [],n,t,_,i=>by simp [B7]
 | v :: l,n,t,h,i=>by
   simp only [List.length_cons] at h
   rw [B7,KT l (n+1) _ (by omega),D5 10 t n v (by omega)]
   by_cases h1:i=n
   · subst h1
     rw [if_neg (by omega),if_pos rfl,if_pos (Nat.le_refl _)]
     simp
   · by_cases h2:n+1≤i
     · have h3:i - n=(i - (n+1))+1:=by omega
       rw [if_pos h2,if_neg h1,if_pos (by omega),h3,List.getElem?_cons_succ]
     · rw [if_neg h2,if_neg h1,if_neg (by omega)]
theorem Rn:∀ {l:List AV} {vs:List Value},VL g s w l vs→∀ (i:Nat),match l[i]?,vs[i]? with
    | some a,some v=>V g s w a v
    | none,none=>True
    | _,_=>False
 | [],_,h,i=>by simp only [VL] at h; subst h; simp
 | a::l,_,h,i=>by
   simp only [VL] at h
   obtain ⟨v,r,rfl,h1,h2⟩:=h
   cases i with
   | zero=>simpa using h1
   | succ i=>simpa using Rn h2 i
theorem QW {args:List AV} {vs:List Value} (hv:VL g s w args vs) {n:Nat} (hn:n < 1000) (ha:args.length≤n):VT g s w (B7 0 args .e) (vs.toArray++Array.replicate (n - vs.toArray.size) Go.undef) ∧
    (vs.toArray++Array.replicate (n - vs.toArray.size) Go.undef).size=n:=by
 have hl:=hv.length
 refine ⟨⟨by simp; omega,fun t=>?_⟩,by simp; omega⟩
 rw [KT args 0 .e (by omega)]
 rw [if_pos (Nat.zero_le _),Nat.sub_zero]
 have:=Rn hv t
 rw [Array.getD_eq_getD_getElem?]
 cases h1:args[t]? with
 | some a =>
   cases h2:vs[t]? with
   | none=>rw [h1,h2] at this; exact this.elim
   | some v =>
     rw [h1,h2] at this
     have hlt:t < vs.length:=(List.getElem?_eq_some_iff.1 h2).1
     rw [Array.getElem?_append_left (by simpa using hlt)]
     simpa [h2] using this
 | none =>
   cases h2:vs[t]? with
   | some v=>rw [h1,h2] at this; exact this.elim
   | none =>
     have hge:vs.length≤t:=by simpa using h2
     rw [Array.getElem?_append_right (by simpa using hge)]
     have:((Array.replicate (n - vs.toArray.size) Go.undef)[t - vs.toArray.size]?).getD Go.undef=Go.undef:=by
      rw [Array.getElem?_replicate]; split<;>rfl
     rw [this]
     simp [Tr.get,undef,Go.undef,V,VL]
theorem NO {agg:Bool} {n:Nat} {x r:AV} {av:Value} (hv:V g s w x av) (h:ldA s agg n x=some r):∃ ad,av=.pointer (some ad):=by
 unfold ldA at h
 split at h
 · simp only [V] at hv; exact ⟨_,hv.2⟩
 · simp only [V] at hv; obtain ⟨b,o,cs,he,_⟩:=hv; exact ⟨_,he⟩
 · cases h
theorem Oo {o:Option (AV×St)} {r:AV} {u:Value} (ho:∀ a s1,o=some (a,s1)→Good (CRof P gt) g s w s1 a u w) (h:QQ o=some (r,s')):Good (CRof P gt) g s w s' r u w:=by
 unfold QQ at h
 split at h
 · rename_i es xs s1
   obtain ⟨g1,hI1,hL1,hV1,hE1⟩:=ho _ _ rfl
   split at h
   · split at h<;>try (cases h; done)
     rename_i xs' s2 he
     split at h<;>cases h
     rename_i hal
     have hV2:=hV1
     simp only [V] at hV2
     obtain ⟨b,o,cap,vs,rfl,h1,h2,h3,h4⟩:=hV2
     obtain ⟨k1,k2,k3,k4⟩:=h4 rfl
     obtain ⟨g2,hI2,hL2,hVL,hE2,hlen⟩:=JP hI1 k1 he
     have hV3:=CY hL2 _ _ hV1
     simp only [V] at hV3 ⊢
     obtain ⟨b',o',cap',vs',e,h1',h2',h3',h4'⟩:=hV3
     simp only [Value.slice.injEq,Option.some.injEq,Addr.mk.injEq] at e
     obtain ⟨⟨rfl,rfl,_⟩,_,rfl⟩:=e
     obtain ⟨_,_,k3',k4'⟩:=h4' rfl
     refine ⟨g2,hI2,hL1.trans hL2,?_,Esc.trans hL1.nb hE1 hE2⟩
     simp only [V]
     rw [← hlen] at h1 k3' k4' ⊢
     exact ⟨b,o,cap,vs,rfl,h1,hal,h3',fun _=>⟨hVL,k2,k3',k4'⟩⟩
   · cases h
     exact ⟨g1,hI1,hL1,hV1,hE1⟩
 · exact ho _ _ h
theorem NP {v r:AV} {u:Value} (hI:Inv (CRof P gt) g s w) (hv:V g s w v u) (h:pubA s v=some (r,s')):Good (CRof P gt) g s w s' r u w:=by
 unfold pubA at h
 split at h
 · split at h<;>try (cases h; done)
   rename_i l s1 hp
   cases h
   simp only [V] at hv
   obtain ⟨vs,h1,rfl⟩:=hv
   obtain ⟨g1,hI1,hL1,hV1,hE1⟩:=Nq hI h1 hp
   exact ⟨g1,hI1,hL1,by simp only [V]; exact ⟨vs,hV1,rfl⟩,hE1⟩
 · split at h
   · exact ML hI hv h
   · exact Oo (fun _ _ h=>ML hI hv h) h
 · exact ML hI hv h
def KU (tmps:Array Value):ResultVar→Sem Value
 | .tmp t=>pure (tmps.getD t Go.undef)
 | .cell a t=>do loadVar t (← asAddr (tmps.getD a Go.undef))
theorem HC:∀ {rs:List ResultVar} {res:List (Nat×Option (Bool×Nat))},D4 P rs=some res→∀ {g:G} {s s':St} {tmps:Array Value} {vs:List AV},Inv (CRof P gt) g s w→VT g s w e tmps→Cc e s res=some (vs,s') →
    ∃ us,(rs.mapM (KU tmps)).run P w=.ok us w∧O0 (CRof P gt) g s w s' vs us w
 | [],res,hc,g,s,s',tmps,vs,hI,hT,h=>by
   simp only [D4] at hc; cases hc
   simp only [Cc] at h; cases h
   exact ⟨[],by simp,g,hI,Le.refl _ _ _,by simp [VL],Esc.refl _⟩
 | .tmp t::rs,res,hc,g,s,s',tmps,vs,hI,hT,h=>by
   simp only [D4] at hc
   split at hc<;>try (cases hc; done)
   rename_i res' hres
   cases hc
   simp only [Cc] at h
   split at h<;>try (cases h; done)
   rename_i v s1 hp
   split at h<;>try (cases h; done)
   rename_i r s2 hr
   cases h
   obtain ⟨g1,hI1,hL1,hV1,hE1⟩:=NP hI (hT.2 t) hp
   obtain ⟨us,e1,g2,hI2,hL2,hV2,hE2⟩:=HC hres hI1 (DU hL1 hT) hr
   refine ⟨tmps.getD t Go.undef::us,?_,g2,hI2,hL1.trans hL2,by simp only [VL]; exact ⟨_,_,rfl,CY hL2 _ _ hV1,hV2⟩,Esc.trans hL1.nb hE1 hE2⟩
   simp only [List.mapM_cons,KU,Sem.run_bind,Sem.run_pure,Result.andThen_ok,e1]
 | .cell t ty::rs,res,hc,g,s,s',tmps,vs,hI,hT,h=>by
   simp only [D4] at hc
   split at hc<;>try (cases hc; done)
   rename_i res' ag n hres hag hn
   cases hc
   simp only [Cc] at h
   split at h<;>try (cases h; done)
   rename_i v hld
   split at h<;>try (cases h; done)
   rename_i v' s1 hp
   split at h<;>try (cases h; done)
   rename_i r s2 hr
   cases h
   obtain ⟨u,e0,hu⟩:=NV hI hag hn (hT.2 t) hld
   obtain ⟨ad,had⟩:=NO (hT.2 t) hld
   obtain ⟨g1,hI1,hL1,hV1,hE1⟩:=NP hI hu hp
   obtain ⟨us,e1,g2,hI2,hL2,hV2,hE2⟩:=HC hres hI1 (DU hL1 hT) hr
   refine ⟨u::us,?_,g2,hI2,hL1.trans hL2,?_,Esc.trans hL1.nb hE1 hE2⟩
   · rw [had] at e0
     have e2:(loadVar ty ad).run P w=.ok u w:=by simpa [Instr.loadAt,Instr.sureAddr] using e0
     have e3:(asAddr (tmps.getD t Go.undef)).run P w=.ok ad w:=by rw [had]; simp [asAddr]
     simp only [List.mapM_cons,KU,Sem.run_bind,e3,Sem.run_pure,Result.andThen_ok,e1,e2]
   · simp only [VL]
     exact ⟨_,_,rfl,CY hL2 _ _ hV1,hV2⟩
end
end Go.Proofs.Ytfpoihibfajhlaa.Am

namespace Go.Proofs.Ytfpoihibfajhlaa.Am
section
variable {P:Program} {gt:Nat→Option (List AV)} {prog:Nat→Option Fun} {self:Self} {g g2:G} {s s' s2:St} {w w0 w1 w2:World} {e:Tr} {r:AV}
theorem Gone.cell (h:Gone w0 w1 w2):∀ a v,w1.cell? a=some v→w2.cell? a=some v:=by
 intro a v hv
 rcases h.2.1 a.block with h1 | ⟨_,d,h1⟩
 · simpa only [World.cell?,h1] using hv
 · simp [World.cell?,h1] at hv
theorem Ia {keep raw:Bool} {pops:List Nat} {F:Func} {fn:Fun} (h:compF P gt keep raw pops F=some fn) :
    ∃ b,F.body=some b∧D4 P F.results.toList=some fn.res∧fn.body=Bz P gt pops F.ntmps b∧fn.ntmps=F.ntmps∧F.ntmps < 1000:=by
 unfold compF at h
 split at h<;>try (cases h; done)
 rename_i b res hb hr
 split at h<;>try (cases h; done)
 rename_i hc
 cases h
 exact ⟨b,hb,hr,rfl,rfl,hc.1⟩
def tupV:List Value→Value
 | [v]=>v
 | l=>.tuple l.toArray
theorem E7 {fn:Func} {tmps:Array Value} {us:List Value} (h:(fn.results.toList.mapM (KU tmps)).run P w=.ok us w) :
    (results fn tmps).run P w=.ok (tupV us) w:=by
 show (do
  let vs ← fn.results.mapM (KU tmps)
  pure (if h:vs.size=1 then vs[0] else .tuple vs):Sem Value).run P w=_
 rw [Array.mapM_eq_mapM_toList]
 simp only [Sem.run_bind,Sem.run_map,h,Result.andThen_ok,Sem.run_pure]
 match us with
 | []=>simp [tupV]
 | [v]=>simp [tupV]
 | a::b::l=>simp [tupV]
theorem P4 {vs:List AV} {us:List Value} (h:VL g s w vs us):V g s w (Af vs) (tupV us):=by
 match vs,h with
 | [],h =>
   simp only [VL] at h; subst h
   simp only [Af,tupV,V,VL]; exact ⟨[],rfl,rfl⟩
 | [a],h =>
   simp only [VL] at h
   obtain ⟨v,r,rfl,h1,rfl⟩:=h
   exact h1
 | a::b::l,h =>
   have h':=h
   simp only [VL] at h
   obtain ⟨v,r,rfl,h1,v2,r2,rfl,h2,h3⟩:=h
   simp only [Af,tupV,V]
   exact ⟨_,h',rfl⟩
/-! ### Values told at a border -/
theorem PQ:∀ (c:CT) (a:AV),(wk c a).cells.length=a.cells.length∧(ones a.cells=true→ones (wk c a).cells=true):=by
 have hz:∀ (l:List AV) (cs:List CT),(∀ a∈l,∀ c,(ones [a]=true→ones [wk c a]=true))→(wkZ cs l).length=l.length∧(ones l=true→ones (wkZ cs l)=true):=by
  intro l
  induction l with
  | nil=>intro cs _; cases cs<;>simp [wkZ]
  | cons a l ih =>
    intro cs h
    cases cs with
    | nil=>exact ⟨by simp [wkZ],fun h=>by simpa [wkZ] using h⟩
    | cons c cs =>
      obtain ⟨h1,h2⟩:=ih cs fun a ha=>h a (List.mem_cons_of_mem _ ha)
      refine ⟨by simp [wkZ,h1],fun ho=>?_⟩
      obtain ⟨h3,h4⟩:=Gg ho
      have h5:=h a (by simp) c h3
      have h6:=h2 h4
      simp only [wkZ]
      generalize wk c a=x at h5
      cases x<;>simp_all [ones]
 have one:∀ (a:AV) (c:CT),ones [a]=true→ones [wk c a]=true:=by
  intro a c h
  cases a<;>cases c<;>first | exact h | rfl | (simp [ones] at h; done) | skip
  all_goals
   rename_i m _ _
   cases m<;>simp only [wk]<;>(try split)<;>first | exact h | rfl
 intro c a
 cases a with
 | agg l =>
   cases c with
   | agg cs =>
     simp only [wk,AV.cells]
     exact hz l cs fun a _ c=>one a c
   | id=>simp [wk]
   | sl es c=>simp [wk]
 | sl es xs m =>
   cases c with
   | sl es' c' =>
     cases m<;>simp only [wk]<;>(try split)<;>simp [AV.cells,ones]
   | id=>simp [wk]
   | agg cs=>simp [wk]
 | _=>cases c<;>simp [wk,AV.cells,ones]
theorem N3 (c:CT):∀ l:List AV,(wkM c l).length=l.length
 | []=>by cases c<;>rfl
 | a::l=>by simp [wkM,N3 c l]
theorem JI (c:CT) (es:Nat):∀ l:List AV,AY es l=true→AY es (wkM c l)=true
 | [],h=>by cases c<;>simpa [wkM] using h
 | a::l,h=>by
   simp only [AY,Bool.and_eq_true] at h
   simp only [wkM,AY,Bool.and_eq_true]
   obtain ⟨h1,h2⟩:=PQ c a
   exact ⟨⟨by rw [h1]; exact h.1.1,h2 h.1.2⟩,JI c es l h.2⟩
mutual
theorem V_wk:∀ (a:AV) (c:CT) (v:Value),V g s w a v→V g s w (wk c a) v
 | .b _,c,v,h=>by cases c<;>exact h
 | .i _ _,c,v,h=>by cases c<;>exact h
 | .s _,c,v,h=>by cases c<;>exact h
 | .np,c,v,h=>by cases c<;>exact h
 | .p _ _,c,v,h=>by cases c<;>exact h
 | .ep _ _ _,c,v,h=>by cases c<;>exact h
 | .nsl,c,v,h=>by
   cases c with
   | sl es c=>exact IS h
   | id=>exact h
   | agg cs=>exact h
 | .sl e xs m,c,v,h=>by
   cases c with
   | id=>exact h
   | agg cs=>exact h
   | sl es c =>
     have key:∀ m',m'=.full∨m'=.shut→V g s w (.sl e xs m') v→V g s w (.ws false e (wkM c xs)) v:=by
      intro m' hm h
      rw [V_ws]
      right; right
      simp only [V] at h ⊢
      obtain ⟨b,o,cap,vs,he,h0,ha,_,hv⟩:=h
      have hok:s.ok m'=true:=by rcases hm with rfl | rfl<;>rfl
      obtain ⟨h1,h2,h3,h4⟩:=hv hok
      have hl:=N3 c xs
      refine ⟨b,o,cap,vs,by rw [hl]; exact he,by rw [hl]; exact h0,JI c e xs ha,trivial,fun _=>⟨P5 xs c vs h1,h2,?_,?_⟩⟩
      · rw [hl]; rcases hm with rfl | rfl<;>exact h3
      · rw [hl]; exact h0.2
     cases m with
     | tok k u=>exact h
     | full =>
       simp only [wk]
       split
       · rename_i hb; have:=Nat.eq_of_beq_eq_true hb; subst this; exact key _ (.inl rfl) h
       · exact h
     | shut =>
       simp only [wk]
       split
       · rename_i hb; have:=Nat.eq_of_beq_eq_true hb; subst this; exact key _ (.inr rfl) h
       · exact h
 | .ws f e xs,c,v,h=>by
   cases c with
   | id=>exact h
   | agg cs=>exact h
   | sl es c =>
     simp only [wk]
     cases f with
     | false=>exact h
     | true =>
       rcases V_ws.1 h with ⟨h1,rfl⟩ | ⟨h1,rfl⟩ | h1
       · exact IS h1
       · exact MG h1
       · exact MF (.inr ⟨rfl,rfl⟩) h1
 | .bl _ _ _ _ _,c,v,h=>by cases c<;>exact h
 | .ige _,c,v,h=>by cases c<;>exact h
 | .wz,c,v,h=>by
   cases c with
   | sl es c=>exact MG h
   | id=>exact h
   | agg cs=>exact h
 | .sd _ _ _,c,v,h=>by cases c<;>exact h
 | .nm,c,v,h=>by cases c<;>exact h
 | .m _,c,v,h=>by cases c<;>exact h
 | .nf,c,v,h=>by cases c<;>exact h
 | .fn _ _,c,v,h=>by cases c<;>exact h
 | .yld _,c,v,h=>by cases c<;>exact h
 | .ni,c,v,h=>by cases c<;>exact h
 | .ifc _ _,c,v,h=>by cases c<;>exact h
 | .mth _ _,c,v,h=>by cases c<;>exact h
 | .agg l,c,v,h=>by
   cases c with
   | id=>exact h
   | sl es c=>exact h
   | agg cs =>
     simp only [wk,V] at h ⊢
     obtain ⟨vs,h1,h2⟩:=h
     exact ⟨vs,MS l cs vs h1,h2⟩
 | .tup _,c,v,h=>by cases c<;>exact h
 | .any,c,v,h=>by cases c<;>exact h
theorem P5:∀ (l:List AV) (c:CT) (vs:List Value),VL g s w l vs→VL g s w (wkM c l) vs
 | [],c,vs,h=>by cases c<;>exact h
 | a::l,c,vs,h=>by
   simp only [wkM,VL] at h ⊢
   obtain ⟨v,r,he,h1,h2⟩:=h
   exact ⟨v,r,he,V_wk a c v h1,P5 l c r h2⟩
theorem MS:∀ (l:List AV) (cs:List CT) (vs:List Value),VL g s w l vs→VL g s w (wkZ cs l) vs
 | [],cs,vs,h=>by cases cs<;>exact h
 | a::l,[],vs,h=>h
 | a::l,c::cs,vs,h=>by
   simp only [wkZ,VL] at h ⊢
   obtain ⟨v,r,he,h1,h2⟩:=h
   exact ⟨v,r,he,V_wk a c v h1,MS l cs r h2⟩
end
theorem N4:∀ (cs:List CT) (l:List AV),(wkZ cs l).length=l.length
 | [],l=>by cases l<;>rfl
 | c::cs,[]=>rfl
 | c::cs,a::l=>by simp [wkZ,N4 cs l]
theorem PS {vs:List AV} {cs:List CT} {v:Value} (h:V g s w (Af vs) v):V g s w (Af (wkZ cs vs)) v:=by
 match vs,cs with
 | [],cs=>cases cs<;>exact h
 | a::l,[]=>exact h
 | [a],c::cs =>
   have:wkZ (c::cs) [a]=[wk c a]:=by cases cs<;>simp [wkZ]
   rw [this]; exact V_wk a c v h
 | a::b::l,c::cs =>
   have e1:Af (wkZ (c::cs) (a::b::l))=.tup (wkZ (c::cs) (a::b::l)):=by cases cs<;>rfl
   rw [e1]
   simp only [Af,V] at h ⊢
   obtain ⟨vs,h1,h2⟩:=h
   exact ⟨vs,MS _ _ vs h1,h2⟩
theorem Ho (hS : SelfOk P gt self) (hN:Bq P) (hX:Ctx P gt prog) {f:Nat} {fn:Fun} {aas:List AV} (hfn:prog f=some fn) (hpr:fn.prim=none) (hlen:Nat.ble aas.length fn.ntmps=true) (h:Hd self fn aas s=some (r,s')) (hI:Inv (CRof P gt) g s w) (hG:GT gt g w) {vs:List Value} (hv:VL g s w aas vs) :
    Calls P f vs.toArray w fun e w'=>∃ v,e=.returned v∧Good (CRof P gt) g s w s' r v w':=by
 unfold Hd at h
 have hlen':aas.length≤fn.ntmps:=by rw [Nat.ble_eq] at hlen; exact hlen
 obtain ⟨F,pops,raw,hF,hcomp⟩:=hX.fns f fn hfn hpr
 obtain ⟨b,hb,hres,hbody,hnt,hlt⟩:=Ia hcomp
 rw [hnt] at hlen'
 have hI0:=hI.lo s.nb
 have hL0:Le g s w g { s with lo:=s.nb } w:=Le.lo s.nb
 obtain ⟨hT0,hsz⟩:=QW (Ap hL0 _ _ hv) hlt hlen'
 cases hev:evC self fn.body (B7 0 aas .e) { s with lo:=s.nb } with
 | none=>rw [hev] at h; cases h
 | some t =>
   obtain ⟨x,e',s1⟩:=t
   rw [hev] at h
   rw [hbody] at hev
   have hcode:=(Em hS hN hX b hlt hev (rd:=none) (a:={ tmps:=vs.toArray++Array.replicate (F.ntmps - vs.toArray.size) Go.undef,defers:=[] }) (fun hh=>by cases hh) hI0 (hG.mono hL0) hT0 hsz).1
   refine (callsIn_wide (n:=0)).1 (show CallsIn (Ee none) 0 P f vs.toArray w _ from callsIn_of_wp_marks hF hb trivial (wpIn_mono hcode ?_))
   rintro ex a1 w1 ⟨hex,_,⟨g1,hI1,hL1,hT1,hE1⟩,_,ds,hds,hmarks,hpair⟩
   have hds':a1.defers=ds:=by rw [hds]; simp
   have key : (x=.n∨x=.r)→∀ w2,Gone w w1 w2→∃ v,(results F a1.tmps).run P w2=.ok v w2∧∃ v',(Ending.returned v)=.returned v'∧Good (CRof P gt) g s w s' r v' w2:=by
    intro hx w2 hg
    have harr:∀ b,Cx w1 w2 b:=fun b=>by
     rcases hg.2.1 b with h | ⟨_,ds,h⟩
     · exact .same h
     · intro arr T fr hb; rw [h] at hb; cases hb
    have hc1:Cut g1 s1 w1 g1 s1 w1 s1 w2:=⟨Le.refl _ _ _,Nat.le_refl _,Nat.le_refl _,fun _ _=>rfl,hg.cell,harr⟩
    have hI2:Inv (CRof P gt) g1 s1 w2:=Inv.cut hc1 hI1 hg.1 (fun b=>(hg.2.1 b).imp id (fun h=>h.2)) (Nat.le_refl _) (Nat.le_refl _) hI1.lenB hI1.lenT (fun _ _=>rfl) (fun _ _=>rfl) (fun id B hB a ha=>.inr (NG hI1 hB ha))
    have hT2:VT g1 s1 w2 e' a1.tmps:=⟨hT1.1,fun t=>Hw hc1 _ _ _ (hT1.2 t) (hT1.2 t)⟩
    have hc2:Cut g { s with lo:=s.nb } w g1 s1 w1 s1 w2:=⟨hL1,hL1.nb,hL1.nt,fun _ _=>rfl,hg.cell,harr⟩
    have hold:∀ b,b < w.heap.size→w2.heap[b]? = w1.heap[b]? := fun b hb=>by
     rcases hg.2.1 b with h | ⟨h,_⟩
     · exact h
     · omega
    have hL2:Le g { s with lo:=s.nb } w g1 s1 w2:=Le.cut hc2 (by rw [hg.1]; exact Nat.le_refl _) (Nat.le_refl _) (Nat.le_refl _) hI.base hold (fun b hb h=>by rw [hold b hb]; exact h) hg.2.2
    have h':(match fn.keep,fn.res with
     | true,[(t,none)]=>some (e'.get t,{ s1 with lo:=min s.lo s1.lo })
     | true,[(t,some (agg,n))]=>match ldA s1 agg n (e'.get t) with
       | some v=>some (v,{ s1 with lo:=min s.lo s1.lo })
       | none=>none
     | true,[(t,none),(u,none)]=>some (.tup [e'.get t,e'.get u],{ s1 with lo:=min s.lo s1.lo })
     | true,_=>none
     | false,res=>match Cc e' s1 res with
       | some (vs,s1)=>some (Af (wkZ fn.cout vs),leave s s1 (Af vs))
       | none=>none)=some (r,s'):=by
     rcases hx with rfl | rfl<;>exact h
    split at h'<;>try (cases h'; done)
    · rename_i t _ hr
      cases h'
      rw [hr] at hres
      have hrs:F.results.toList=[.tmp t]:=by
       cases hl:F.results.toList with
       | nil=>rw [hl] at hres; simp [D4] at hres
       | cons y l =>
         rw [hl] at hres
         cases y with
         | tmp u =>
           simp only [D4] at hres
           split at hres<;>try (cases hres; done)
           rename_i q hq
           cases hres
           cases l with
           | nil=>rfl
           | cons y l=>cases y<;>simp only [D4] at hq<;>(split at hq<;>cases hq)
         | cell u ty =>
           simp only [D4] at hres
           split at hres<;>cases hres
      refine ⟨a1.tmps.getD t Go.undef,?_,_,rfl,Hj hI2 hL2 hE1 (hT2.2 t)⟩
      have:=E7 (P:=P) (w:=w2) (fn:=F) (tmps:=a1.tmps) (us:=[a1.tmps.getD t Go.undef]) (by rw [hrs]; simp [KU])
      exact this
    · split at h'<;>try (cases h'; done)
      rename_i t agg n _ hr _ v hld
      cases h'
      rw [hr] at hres
      have hrs:∃ ty,F.results.toList=[.cell t ty]∧Hb P ty=some agg∧A5 P ty=some n:=by
       cases hl:F.results.toList with
       | nil=>rw [hl] at hres; simp [D4] at hres
       | cons y l =>
         rw [hl] at hres
         cases y with
         | tmp u =>
           simp only [D4] at hres
           split at hres<;>cases hres
         | cell u ty =>
           simp only [D4] at hres
           split at hres<;>try (cases hres; done)
           rename_i q ag m hq hag hm
           cases hres
           cases l with
           | nil=>exact ⟨ty,rfl,hag,hm⟩
           | cons y l=>cases y<;>simp only [D4] at hq<;>(split at hq<;>cases hq)
      obtain ⟨ty,hrs,hag,hn⟩:=hrs
      obtain ⟨u,e0,hu⟩:=NV hI2 hag hn (hT2.2 t) hld
      obtain ⟨ad,had⟩:=NO (hT2.2 t) hld
      refine ⟨u,?_,_,rfl,Hj hI2 hL2 hE1 hu⟩
      rw [had] at e0
      have e2:(loadVar ty ad).run P w2=.ok u w2:=by simpa [Instr.loadAt,Instr.sureAddr] using e0
      have e3:(asAddr (a1.tmps.getD t Go.undef)).run P w2=.ok ad w2:=by rw [had]; simp [asAddr]
      exact E7 (P:=P) (w:=w2) (fn:=F) (tmps:=a1.tmps) (us:=[u]) (by
       rw [hrs]
       simp only [List.mapM_cons,List.mapM_nil,KU,Sem.run_bind,e3,Sem.run_pure,Result.andThen_ok,e2])
    · rename_i t u _ hr
      cases h'
      rw [hr] at hres
      have hrs : F.results.toList=[.tmp t,.tmp u]:=by
       cases hl:F.results.toList with
       | nil=>rw [hl] at hres; simp [D4] at hres
       | cons y l =>
         rw [hl] at hres
         cases y with
         | tmp t1 =>
           simp only [D4] at hres
           split at hres<;>try (cases hres; done)
           rename_i q hq
           cases hres
           cases l with
           | nil=>simp [D4] at hq
           | cons y l =>
             cases y with
             | tmp t2 =>
               simp only [D4] at hq
               split at hq<;>try (cases hq; done)
               rename_i q hq2
               cases hq
               cases l with
               | nil=>rfl
               | cons y l=>cases y<;>simp only [D4] at hq2<;>(split at hq2<;>cases hq2)
             | cell t2 ty =>
               simp only [D4] at hq
               split at hq<;>cases hq
         | cell t1 ty =>
           simp only [D4] at hres
           split at hres<;>cases hres
      refine ⟨tupV [a1.tmps.getD t Go.undef,a1.tmps.getD u Go.undef],?_,_,rfl,Hj hI2 hL2 hE1 ?_⟩
      · exact E7 (P:=P) (w:=w2) (fn:=F) (tmps:=a1.tmps) (us:=[a1.tmps.getD t Go.undef,a1.tmps.getD u Go.undef]) (by rw [hrs]; simp [KU])
      · exact P4 (vs:=[e'.get t,e'.get u]) (by simp only [VL]; exact ⟨_,_,rfl,hT2.2 t,_,_,rfl,hT2.2 u,rfl⟩)
    · split at h'<;>try (cases h'; done)
      rename_i vs' s3 hr
      cases h'
      obtain ⟨us,e1,g3,hI3,hL3,hV3,hE3⟩:=HC hres hI2 hT2 hr
      exact ⟨_,E7 e1,_,rfl,Lv hI hI3 (hL2.trans hL3) (Esc.trans hL2.nb hE1 hE3) (P4 hV3) |>.weak fun _ _ _ hv=>PS hv⟩
   have hgo:(x=.n∨x=.r)→LeavesInM (Ee none) 0 P F a1.tmps (fun e w'=>∃ v,e=.returned v∧Good (CRof P gt) g s w s' r v w') a1.defers .returning w1:=fun hx=>by
    rw [hds']
    exact HU (w0:=w) (w1:=w1) (key hx) ds w1 ⟨rfl,fun _=>.inl rfl,rfl,rfl⟩ hmarks hpair
   cases x with
   | x i=>cases h
   | n=>cases ex<;>simp only [E5] at hex; exact hgo (.inl rfl)
   | r=>cases ex<;>simp only [E5] at hex; exact hgo (.inr rfl)
theorem N5 {e:Tr} {o:AOp} {v:AV} (h:NM e o=some v) (self:Self) (s:St):evOp self e s o=some (v,s):=by
 have gen:∀ o:AOp,(if Nat.beq o.cls 0&&BF e noSt o then match evOp dead e noSt o with
     | some (v,_)=>some v
     | none=>none
  else none)=some v→evOp self e s o=some (v,s):=by
  intro o h
  split at h<;>try (cases h; done)
  rename_i hc
  simp only [Bool.and_eq_true] at hc
  obtain ⟨hc,hq⟩:=hc
  have hc:=Nat.eq_of_beq_eq_true hc
  split at h<;>cases h
  rename_i w s1 he
  have h2:=(D0 (by rw [hc]; decide) hq he).2 hc s
  rw [← h2]
  cases o<;>first | rfl | (simp [AOp.cls] at hc; done)
 cases o<;>first | exact gen _ h | skip
 rename_i es T x y
 simp only [NM] at h
 unfold NL at h
 simp only [evOp]
 split at h
 · cases h; rename_i h1 h2; rw [h1,h2]; rfl
 · cases h; rename_i h1 h2; rw [h1,h2]; rfl
 · split at h<;>cases h; rename_i h1 h2 h3; subst h3; rw [h1,h2]; simp [appA,elems,St.ok,orU]
 · split at h<;>cases h; rename_i h1 h2 h3; subst h3; rw [h1,h2]; simp [appA,elems,St.ok,orU]
 · cases h
theorem HL {self:Self} {s:St}:∀ {l:List Op} {e e':Tr},G9 l e=some e'→EV self l e s=some (e',s)
 | [],e,e',h=>by simp only [G9] at h; cases h; rfl
 | o :: l,e,e',h=>by
   simp only [G9] at h
   simp only [EV]
   split at h
   · rename_i hw
     rw [if_pos hw]
     split at h<;>try (cases h; done)
     rename_i v hv
     rw [N5 hv self s]
     exact HL h
   · rename_i hw
     rw [if_neg hw]
     exact HL h
theorem Gs {self:Self} {s:St}:∀ {c:C} {e e':Tr} {b:Bool},GJ c e=some (b,e')→evC self c e s=some (if b then .r else .n,e',s)
 | .skip,e,e',b,h=>by simp only [GJ] at h; cases h; rfl
 | .ret,e,e',b,h=>by simp only [GJ] at h; cases h; rfl
 | .reg ops,e,e',b,h=>by
   simp only [GJ] at h
   split at h<;>cases h
   rename_i h1
   simp only [evC,HL h1]; rfl
 | .seq c d,e,e',b,h=>by
   simp only [GJ] at h
   simp only [evC]
   cases hc:GJ c e with
   | none=>rw [hc] at h; cases h
   | some x =>
     obtain ⟨b1,e1⟩:=x
     rw [hc] at h
     rw [Gs hc]
     cases b1 with
     | false=>exact Gs h
     | true=>cases h; rfl
 | .cond x c d,e,e',b,h=>by
   simp only [GJ] at h
   simp only [evC]
   split at h<;>try (cases h; done)
   · exact Gs h
   · exact Gs h
 | .regD _ _,_,_,_,h=>by cases h
 | .blk _ _,_,_,_,h=>by cases h
 | .loop _,_,_,_,h=>by cases h
 | .exit _,_,_,_,h=>by cases h
 | .rf _ _ _ _,_,_,_,h=>by cases h
 | .thw _,_,_,_,h=>by cases h
 | .bad,_,_,_,h=>by cases h
theorem HM {self:Self} {fn:Fun} {aas:List AV} {s:St} {b:Bool} {e:Tr} {t:Nat} (hk:fn.keep=true) (hr:fn.res=[(t,none)]) (h:GJ fn.body (B7 0 aas .e)=some (b,e)) :
    Hd self fn aas s=some (e.get t,{ s with lo:=min s.lo s.nb }):=by
 unfold Hd
 rw [Gs h]
 cases b<;>simp only [hk,hr]<;>rfl
theorem RH (hS:SelfOk P gt self) (hN:Bq P) (hX:Ctx P gt prog) {f:Nat} {args:List AV} (h:Fp prog self f args s=some (r,s')) (hI:Inv (CRof P gt) g s w) (hG:GT gt g w) {vs:List Value} (hv:VL g s w args vs) :
    Calls P f vs.toArray w fun e w'=>∃ v,e=.returned v∧Good (CRof P gt) g s w s' r v w':=by
 unfold Fp at h
 split at h<;>try (cases h; done)
 rename_i fn hfn
 split at h
 · rename_i p hp
   exact (hX.prims f fn p hfn hp).2 _ _ _ _ h g w vs hI hG hv
 rename_i hprim
 split at h<;>try (cases h; done)
 rename_i hlen
 have hv':=MS _ fn.cin _ hv
 have hlen2:Nat.ble (wkZ fn.cin args).length fn.ntmps=true:=by rw [N4]; exact hlen
 split at h
 · rename_i v hb
   cases h
   unfold both at hb
   split at hb<;>try (cases hb; done)
   rename_i t fl es hk hr ha
   split at hb<;>try (cases hb; done)
   rename_i b1 e1 b2 e2 b3 e3 h1 h2 h3
   split at hb<;>try (cases hb; done)
   rename_i e e0 hg1 hg2 hg3
   split at hb<;>cases hb
   rename_i he
   obtain ⟨he,he0⟩:=he
   subst he
   subst he0
   rw [ha] at hv' hlen2
   simp only [VL] at hv'
   obtain ⟨u,l,rfl,hu,rfl⟩:=hv'
   rcases V_ws.1 hu with ⟨hu,_⟩ | ⟨hu,_⟩ | hu
   · have hc:=HM (self:=self) (s:=s) hk hr h1
     rw [hg1] at hc
     refine (Ho hS hN hX hfn hprim (aas:=[.nsl]) hlen2 hc hI hG (vs:=[u]) (by simp only [VL]; exact ⟨u,[],rfl,hu,rfl⟩)).mono ?_
     rintro e w' ⟨v,rfl,hgd⟩
     exact ⟨v,rfl,hgd.weak fun _ _ _ hv=>IS hv⟩
   · have hc:=HM (self:=self) (s:=s) hk hr h3
     rw [hg3] at hc
     refine (Ho hS hN hX hfn hprim (aas:=[.wz]) hlen2 hc hI hG (vs:=[u]) (by simp only [VL]; exact ⟨u,[],rfl,hu,rfl⟩)).mono ?_
     rintro e w' ⟨v,rfl,hgd⟩
     exact ⟨v,rfl,hgd.weak fun _ _ _ hv=>MF (.inl rfl) hv⟩
   · have hm:cond fl Cap.full .shut=capM fl:=by cases fl<;>rfl
     rw [hm] at h2
     have hc:=HM (self:=self) (s:=s) hk hr h2
     rw [hg2] at hc
     refine (Ho hS hN hX hfn hprim (aas:=[.sl e0 [] (capM fl)]) hlen2 hc hI hG (vs:=[u]) (by simp only [VL]; exact ⟨u,[],rfl,hu,rfl⟩)).mono ?_
     rintro e w' ⟨v,rfl,hgd⟩
     exact ⟨v,rfl,hgd.weak fun _ _ _ hv=>MF (.inl rfl) hv⟩
 · exact Ho hS hN hX hfn hprim hlen2 h hI hG hv'
theorem P6 (hN:Bq P) (hX:Ctx P gt prog):∀ n,SelfOk P gt (run prog n)
 | 0=>⟨fun _ _ _ _ _ h=>by simp [run] at h,fun _ _ _ _ _ _ h=>by simp [run] at h,fun _ _ _ _ _ h=>by simp [run] at h⟩
 | n + 1=>by
   have ih:=P6 hN hX n
   refine ⟨fun f args s r s' h g w vs hI hG hv=>?_,fun c e s x e' s' h k pops code hk hc g w rd a hr hI hG hT hz=>?_,fun f args s r s' h=>?_⟩
   · exact RH ih hN hX (by simpa only [run] using h) hI hG hv
   · subst hc
     exact Em ih hN hX code hk (by simpa only [run] using h) hr hI hG hT hz
   · simp only [run] at h
     unfold Fp at h
     split at h<;>try (cases h; done)
     rename_i fn hfn
     cases hprim:fn.prim with
     | some p=>exact (hX.prims f fn p hfn hprim).1
     | none =>
     obtain ⟨F,pops,raw,hF,hcomp⟩:=hX.fns f fn hfn hprim
     obtain ⟨b,hb,_⟩:=Ia hcomp
     exact ⟨F,b,hF,hb⟩
end
end Go.Proofs.Ytfpoihibfajhlaa.Am

namespace Go.Proofs.Ytfpoihibfajhlaa.Am
section
variable {P:Program} {gt:Nat→Option (List AV)} {prog:Nat→Option Fun}
def s0:St:={ nb:=0,boxes:=[],nt:=0,toks:=[],lo:=0 }
def g0 (W:World):G:={ base:=W.heap.size,bx:=fun _=>0,tk:=fun _=>⟨0,0,0⟩,prot:=fun _=>0 }
theorem inv0 {CR:Nat→Code→C→Prop} (W:World):Inv CR (g0 W) s0 W where
 lenB:=rfl
 lenT:=rfl
 base:=Nat.le_refl _
 fresh:=fun _ _=>rfl
 lt:=fun id h=>absurd h (Nat.not_lt_zero _)
 box:=fun id B h=>by simp [St.box?,s0] at h
 pr:=fun id B h=>by simp [St.box?,s0] at h
 inj:=fun i j A B h=>by simp [St.box?,s0] at h
 tlt:=fun k t h=>by simp [St.tok?,s0] at h
 tall:=fun k h=>absurd h (Nat.not_lt_zero _)
 tok:=fun k t h=>by simp [St.tok?,s0] at h
 tinj:=fun i j t u h=>by simp [St.tok?,s0] at h
 btk:=fun i B k t h=>by simp [St.box?,s0] at h
def Kept (W W':World):Prop:=W'.os=W.os∧W'.output=W.output∧W.heap.size≤W'.heap.size∧∀ k,k < W.heap.size→W'.heap[k]? = W.heap[k]?
theorem NR (hN:Bq P) (hX:Ctx P gt prog) {f n:Nat} {args:List AV} {s':St} {W:World} {vs:Array Value} (hG:GT gt (g0 W) W) (hv:VL (g0 W) s0 W args vs.toList) (h:(run prog n).call f args s0=some (.b true,s')) :
    Calls P f vs W fun e W'=>e=.returned (.bool true)∧Kept W W':=by
 have:=(P6 hN hX n).call f args s0 _ s' h (g0 W) W vs.toList (inv0 W) hG hv
 rw [Array.toArray_toList] at this
 refine this.mono ?_
 rintro e W' ⟨v,rfl,g',hI,hL,hV,hE⟩
 simp only [V] at hV
 subst hV
 exact ⟨rfl,hL.io.1,hL.io.2,hL.size,hL.low⟩
theorem Kept.frame {W W':World} (h:Kept W W') (may:MemPlace→Prop):W.keptBut W' may:=by
 refine ⟨h.1,h.2.1,fun i hi=>?_⟩
 rw [h.2.2.2 i hi]
 split<;>simp_all
theorem Kept.same {W W':World} (h:Kept W W') {p:MemPlace} (hp:p.block < W.heap.size):W.sameAt W' p:=by
 cases p with
 | cell b o=>exact World.cell?_of_block (w:=W) (h.2.2.2 b hp)
 | map b=>exact h.2.2.2 b hp
theorem Kept.trod {H:Type} {enc:TypeId×Value→H} {t:TypeId} (hl:laidOutB P=true) (hr:P.readableRec t=true) (hrow:t < P.types.size) {W W':World} {v:Value} {d:DataW H} {ps:List MemPlace}
    (h:DataW.Trod enc P W 0 (fun _=>true) true t v d ps) (hb:Kept W W') (hlt:∀ x∈ps,x.block < W.heap.size) :
    DataW.Trod enc P W' 0 (fun b=>decide (b < W.heap.size)) true t v d ps :=
 WideElems.Trod_stays hl hr hrow h (fun x hx=>hb.same (hlt x hx)) (fun x hx=>by simpa using hlt x hx)
def Ov (P:Program) (ts:List TypeId):Bool:=ts.all fun t=>P.readableRec t&&decide (t < P.types.size)
theorem Kept.trodAll {H:Type} {enc:TypeId×Value→H} (hl:laidOutB P=true) {W W':World} (hb:Kept W W'):∀ {ts:List TypeId} {vs:List Value} {ds:List (DataW H)} {ps:List MemPlace},Ov P ts=true →
    DataW.TrodAll enc P W 0 (fun _=>true) true ts vs ds ps→(∀ x∈ps,x.block < W.heap.size)→DataW.TrodAll enc P W' 0 (fun b=>decide (b < W.heap.size)) true ts vs ds ps
 | [],[],[],ps,_,h,_=>h
 | [],[],_::_,_,_,h,_=>h.elim
 | [],_::_,_,_,_,h,_=>h.elim
 | _::_,[],_,_,_,h,_=>h.elim
 | _::_,_::_,[],_,_,h,_=>h.elim
 | t::ts,v::vs,d::ds,ps,hr,h,hlt=>by
   obtain ⟨p,q,h1,h2,rfl⟩:=h
   simp only [Ov,List.all_cons,Bool.and_eq_true,decide_eq_true_eq] at hr
   exact ⟨p,q,Kept.trod hl hr.1.1 hr.1.2 h1 hb fun x hx=>hlt x (by simp [hx]),Kept.trodAll hl hb (by simpa [Ov] using hr.2) h2 fun x hx=>hlt x (by simp [hx]),rfl⟩
theorem Ow {H:Type} {enc:TypeId×Value→H} {f:Func} {s:ChangeSpec} {W W':World} {args:Array Value} {ds gs:List (DataW H)} {before:List MemPlace} {bt:TypeId} (hl:laidOutB P=true) (hr:Ov P f.params.toList=true)
    (hs:s.vars=[]) (hrt:f.resultTypes=#[bt]) (hbt:P.underlying bt=some .bool)
    (hW:DataW.Whole enc P f.params.toList s.vars false W args.toList ds gs before) (hfn:s.fn H (ds++gs)={ results:=[.lit (.bool true)],args:=ds }) (hk:Kept W W') :
    s.post enc P f false true false false W args (.bool true) W':=by
 have hlt:=hW.lt
 have hW0:=hW
 obtain ⟨p,q,hA,hV,rfl,hfz,hnd⟩:=hW
 rw [hs] at hV
 refine ⟨ds,gs,p++q,[],p,[],hW0,?_,?_,?_,hk.frame _,fun h=>by cases h⟩
 · rw [hfn,hrt]
   refine ⟨[],[],⟨1,?_⟩,rfl,rfl⟩
   simp [DataW.trod,hbt,Value.cells]
 · rw [hfn]
   exact Kept.trodAll hl hk hr hA fun x hx=>by simpa using hlt x (by simp [hx])
 · rw [hfn,hs]; rfl
end
end Go.Proofs.Ytfpoihibfajhlaa.Am

namespace Go.Proofs.Ytfpoihibfajhlaa.Am
variable {P:Program}
theorem GG (c:Nat) (hc:c < 256):∀ (l:List Nat) (n:Nat),(∀ x∈l,x < 256)→idxB c n l=if Lib.indexByte (l.map UInt8.ofNat) (UInt8.ofNat c) = -1 then -1 else (n:Int)+Lib.indexByte (l.map UInt8.ofNat) (UInt8.ofNat c)
 | [],n,_=>by simp [idxB,Lib.indexByte]
 | a :: l,n,h=>by
   have ha:=h a (by simp)
   have ih:=GG c hc l (n+1) fun x hx=>h x (by simp [hx])
   have hg:=Lib.indexByte_ge (l.map UInt8.ofNat) (UInt8.ofNat c)
   simp only [idxB,List.map_cons,Lib.indexByte]
   have he:(UInt8.ofNat a==UInt8.ofNat c)=Nat.beq a c:=IL ha hc
   rw [he,ih]
   cases Nat.beq a c with
   | true=>simp
   | false =>
     simp only [cond_false,Bool.false_eq_true,if_false]
     by_cases h1:Lib.indexByte (l.map UInt8.ofNat) (UInt8.ofNat c) = -1
     · simp [h1]
     · have h2:(Lib.indexByte (l.map UInt8.ofNat) (UInt8.ofNat c) == -1)=false:=by simpa using h1
       rw [if_neg h1,h2]
       simp only [Bool.false_eq_true,if_false]
       rw [if_neg (by omega)]
       omega
theorem QS:My 0 Extern.BytealgIndexByte.indexByte P:=by
 intro l c w hl hc
 rw [Lib.run_indexByteString]
 congr 2
 have h1:(Int.ofNat c).toNat.toUInt8=UInt8.ofNat c:=rfl
 rw [h1,Gi,GG c hc l 0 hl]
 split
 · rename_i h; exact h
 · simp
theorem QT:My 1 Extern.AbiNoEscape.same P:=fun _ _=>rfl
theorem Oj:Extern.allGenericRows.lookup "internal/bytealg.IndexByteString"=none∧Extern.allTypedRows.lookup "internal/bytealg.IndexByteString"=none∧Extern.allRows.lookup "internal/bytealg.IndexByteString"=some Extern.BytealgIndexByte.indexByte∧Extern.allNextRows.lookup "internal/bytealg.IndexByteString"=none:=by
 refine ⟨?_,?_,?_,?_⟩<;>kernel_rfl
theorem Ol:Extern.allGenericRows.lookup "internal/abi.NoEscape"=none∧Extern.allTypedRows.lookup "internal/abi.NoEscape"=none∧Extern.allRows.lookup "internal/abi.NoEscape"=some Extern.AbiNoEscape.same∧Extern.allNextRows.lookup "internal/abi.NoEscape"=none:=by
 refine ⟨?_,?_,?_,?_⟩<;>kernel_rfl
theorem QU:Extern.allGenericRows.lookup G6=none∧Extern.allTypedRows.lookup G6=some Extern.BytealgMakeNoZero.makeNoZero∧Extern.allNextRows.lookup G6=none:=by
 refine ⟨?_,?_,?_⟩<;>kernel_rfl
theorem QV:(Extern.allGenericRows.lookup "slices.overlaps"=none∧Extern.allTypedRows.lookup "slices.overlaps"=some Extern.SlicesOverlaps.overlaps∧Extern.allNextRows.lookup "slices.overlaps"=none) ∧
    ∀ n∈["slices.overlaps[string]", "slices.overlaps[touchstone/api.Node]", "slices.overlaps[int]", "slices.overlaps[touchstone/api.Term]"],Extern.allGenericRows.lookup n=none∧Extern.allTypedRows.lookup n=none∧Extern.allRows.lookup n=none∧Extern.allNextRows.lookup n=none:=by
 refine ⟨⟨?_,?_,?_⟩,fun n hn=>?_⟩
 · kernel_rfl
 · kernel_rfl
 · kernel_rfl
 · simp only [List.mem_cons,List.not_mem_nil,or_false] at hn
   rcases hn with rfl | rfl | rfl | rfl<;>(refine ⟨?_,?_,?_,?_⟩<;>kernel_rfl)
theorem Om {F:Func} (h:NB F=true):F.origin="slices.overlaps"∧F.name∈["slices.overlaps[string]", "slices.overlaps[touchstone/api.Node]", "slices.overlaps[int]", "slices.overlaps[touchstone/api.Term]"]:=by
 unfold NB at h
 simp only [Bool.and_eq_true,Bool.or_eq_true,beq_iff_eq] at h
 refine ⟨h.1,?_⟩
 rcases h.2 with h | h | h | h<;>simp [h]
def Jc (P:Program):Bool:=P.funcs.all fun F=>!(F.name=="runtime.NumGoroutine")&&(F.body.isSome||(Extern.allNextRows.lookup F.origin).isNone)
theorem On {P:Program} (h:Jc P=true):Bq P:=by
 intro f F hF
 have:=Array.all_eq_true_iff_forall_mem.1 h F (Array.mem_of_getElem? hF)
 rw [Bool.and_eq_true] at this
 simpa using this.1
theorem Rm {P:Program} {gt:Nat→Option (List AV)} {prog:Nat→Option Fun} (h:Jc P=true) (hm:P.follows .mixedOrders=true)
    (hf:∀ (f:Nat) (fn:Fun),prog f=some fn→Ql P gt f fn):Ctx P gt prog:=by
 refine ⟨fun f fn p h1 h2=>?_,fun f fn h1 h2=>?_,fun f F r hF hb hr=>?_,hm,fun f F hF hb hn=>?_,fun f F hF hb hn=>?_⟩
 case refine_1 =>
  rcases hf f fn h1 with ⟨h,_⟩ | ⟨q,h,hq⟩
  · rw [h] at h2; cases h2
  · rw [h2] at h; cases h; exact hq
 case refine_2 =>
  rcases hf f fn h1 with ⟨_,h⟩ | ⟨q,h,hq⟩
  · exact h
  · rw [h2] at h; cases h
 case refine_4 =>
  obtain ⟨ho,hn⟩:=Om hn
  obtain ⟨⟨k1,k2,k3⟩,k4⟩:=QV
  obtain ⟨m1,m2,m3,m4⟩:=k4 _ hn
  exact ⟨by simp [Extern.findNext,ho,k3,m4],by simp [Extern.find,ho,k1,k2,m1,m2,m3]⟩
 case refine_5 =>
  have hc:=Array.all_eq_true_iff_forall_mem.1 h F (Array.mem_of_getElem? hF)
  rw [Bool.and_eq_true,hb] at hc
  simp only [Option.isSome_none,Bool.false_or,Option.isNone_iff_eq_none] at hc
  obtain ⟨k1,k2,k3⟩:=QU
  exact ⟨by simp [Extern.findNext,hn,k3,hc.2],by simp [Extern.find,hn,k1,k2]⟩
 have hc:=Array.all_eq_true_iff_forall_mem.1 h F (Array.mem_of_getElem? hF)
 rw [Bool.and_eq_true,hb] at hc
 simp only [Option.isSome_none,Bool.false_or,Bool.not_eq_true',Option.isNone_iff_eq_none] at hc
 obtain ⟨hc1,hc2⟩:=hc
 refine ⟨hc1,?_⟩
 unfold externRow at hr
 split at hr
 · rename_i hn
   cases hr
   obtain ⟨k1,k2,k3,k4⟩:=Oj
   refine ⟨by simp [Extern.findNext,hn,k4,hc2],_,?_,QS⟩
   simp [Extern.find,hn,k1,k2,k3]
 · split at hr
   · rename_i hn
     cases hr
     obtain ⟨k1,k2,k3,k4⟩:=Ol
     refine ⟨by simp [Extern.findNext,hn,k4,hc2],_,?_,QT⟩
     simp [Extern.find,hn,k1,k2,k3]
   · cases hr
end Go.Proofs.Ytfpoihibfajhlaa.Am

namespace Go.Proofs.Ytfpoihibfajhlaa.Am
inductive PT where
 | e
 | n (k:Nat) (c:Fun) (l r:PT)
def PT.get:PT→Nat→Option Fun
 | .e,_=>none
 | .n k c l r,i=>cond (Nat.beq i k) (some c) (cond (Nat.blt i k) (l.get i) (r.get i))
def PT.All (Q:Nat→Fun→Prop):PT→Prop
 | .e=>True
 | .n k c l r=>Q k c∧l.All Q∧r.All Q
theorem PT.all_get {Q:Nat→Fun→Prop}:∀ {t:PT},t.All Q→∀ {i:Nat} {c:Fun},t.get i=some c→Q i c
 | .e,_,i,c,h=>by simp [PT.get] at h
 | .n k d l r,⟨h1,h2,h3⟩,i,c,h=>by
   simp only [PT.get] at h
   cases hb:Nat.beq i k with
   | true =>
     rw [hb] at h
     have:=Nat.eq_of_beq_eq_true hb
     subst this
     cases h; exact h1
   | false =>
     rw [hb] at h
     cases hl:Nat.blt i k with
     | true=>rw [hl] at h; exact PT.all_get h2 h
     | false=>rw [hl] at h; exact PT.all_get h3 h

theorem Mq {s:St} {oA oB pA pB:Option (AV×St)} {r:AV×St} (hA:∀ x,oA=some x→pA=some x) (hB:∀ x,oB=some x→pB=some x) (h:Iz s oA oB=some r):Iz s pA pB=some r:=by
 cases oA with
 | none=>simp [Iz] at h
 | some x=>cases oB with
   | none=>simp [Iz] at h
   | some y=>rw [hA x rfl,hB y rfl]; exact h
theorem LU {s:St} {oA oB:Option (AV×St)} {r:AV×St} (h:Iz s oA oB=some r):∃ x y,oA=some x∧oB=some y:=by
 cases oA with
 | none=>simp [Iz] at h
 | some x=>cases oB with
   | none=>simp [Iz] at h
   | some y=>exact ⟨x,y,rfl,rfl⟩
structure Sub (a b:Self):Prop where
 call:∀ {f args s r},a.call f args s=some r→b.call f args s=some r
 code:∀ {c e s r},a.code c e s=some r→b.code c e s=some r
section mono
variable {a b:Self} (h:Sub a b)
include h
theorem Mr {f:AV} {args:List AV} {s:St} {r:AV×St} (hr:G8 a f args s=some r):G8 b f args s=some r:=by
 unfold G8 at hr ⊢
 split at hr<;>try (cases hr; done)
 · exact h.call hr
 · split at hr<;>try (cases hr; done)
   rename_i hb
   split at hr<;>try (cases hr; done)
   rename_i hp
   split at hr<;>try (cases hr; done)
   rename_i hc
   rw [h.code hc]
   simp only
   split at hr<;>try (cases hr; done)
   rename_i hb2
   split at hr<;>try (cases hr; done)
   all_goals
    rename_i hc2
    rw [h.code hc2]
    exact hr
theorem Ea {e:Tr} {s:St} {op:AOp} {r:AV×St} (hr:evOp a e s op=some r):evOp b e s op=some r:=by
 cases op<;>try exact hr
 case callK f xs =>
  simp only [evOp] at hr ⊢
  exact h.call hr
 case callQ b f xs =>
  simp only [evOp] at hr ⊢
  split at hr<;>try (cases hr; done)
  rename_i h1
  split at hr<;>try (cases hr; done)
  rename_i h2
  rw [h.call h2]
  exact hr
 case callI f xs =>
  simp only [evOp] at hr ⊢
  split at hr<;>try (cases hr; done)
  split at hr<;>try (cases hr; done)
  split at hr
  · exact Mq (fun x hx=>h.call hx) (fun x hx=>h.call hx) hr
  · split at hr<;>try (cases hr; done)
    exact h.call hr
 case call f xs =>
  simp only [evOp] at hr ⊢
  split at hr<;>try (cases hr; done)
  exact h.call hr
 case callX f xs =>
  simp only [evOp] at hr ⊢
  split at hr<;>try (cases hr; done)
  exact Mr h hr
 case inv t x xs =>
  simp only [evOp] at hr ⊢
  split at hr<;>try (cases hr; done)
  rename_i h1 h2
  split at hr<;>try (cases hr; done)
  rename_i h3
  exact h.call hr
theorem GB:∀ {l:List Op} {e:Tr} {s:St} {r:Tr×St},EV a l e s=some r→EV b l e s=some r
 | [],_,_,_,hr=>hr
 | o :: l,e,s,r,hr=>by
   simp only [EV] at hr ⊢
   by_cases hw:BE e o.guard=true
   · rw [if_pos hw] at hr ⊢
     split at hr<;>try (cases hr; done)
     rename_i v s1 hv
     rw [Ea h hv]
     exact GB hr
   · rw [if_neg hw] at hr ⊢
     exact GB hr
theorem Kd {c:Op} {e:Tr} {s:St} {r:Tr×St} (hr:evD1 a c e s=some r):evD1 b c e s=some r:=by
 unfold evD1 at hr ⊢
 by_cases hw:BE e c.guard=true
 · rw [if_pos hw] at hr ⊢
   split at hr<;>try (cases hr; done)
   rename_i hq
   rw [if_pos hq]
   split at hr<;>try (cases hr; done)
   rename_i v s1 hv
   rw [Ea h hv]
   exact hr
 · rw [if_neg hw] at hr ⊢
   exact hr
theorem Ev:∀ {l:List Op} {e:Tr} {s:St} {r:List (Tr×St)},BB a l e s=some r→BB b l e s=some r
 | [],_,_,_,hr=>hr
 | o::l,e,s,r,hr=>by
   simp only [BB] at hr ⊢
   split at hr<;>try (cases hr; done)
   rename_i h1
   rw [Kd h h1]
   simp only
   split at hr<;>try (cases hr; done)
   rename_i h2
   rw [Ev h2]
   exact hr
theorem Ew {e:Tr} {op:AOp} {v:AV} {x:Option (Tr×St)} (hr:sameAt a e op v x=true):sameAt b e op v x=true:=by
 cases x with
 | none=>exact hr
 | some x =>
   obtain ⟨e1,s1⟩:=x
   simp only [sameAt,Bool.and_eq_true] at hr ⊢
   refine ⟨hr.1,?_⟩
   have h2:=hr.2
   split at h2<;>try (cases h2; done)
   rename_i hv
   rw [Ea h hv]
   exact h2
theorem Gc {ops:List Op} {tr:List (Tr×St)}:∀ {w:List (Nat×Nat×Nat)},chkD a ops tr w=true→chkD b ops tr w=true
 | [],hr=>hr
 | (i,lo,hi)::l,hr=>by
   simp only [chkD,Bool.and_eq_true] at hr ⊢
   refine ⟨?_,Gc hr.2⟩
   have h1:=hr.1
   split at h1<;>try (cases h1; done)
   rename_i o e s ho ht
   rw [Bool.or_eq_true] at h1 ⊢
   refine h1.imp id fun h1=>?_
   split at h1<;>try (cases h1; done)
   rename_i v s1 hv
   rw [Ea h hv]
   simp only [List.all_eq_true] at h1 ⊢
   exact fun x hx=>Ew h (h1 x hx)
theorem Ox {ops:List Op} {w:List (Nat×Nat×Nat)} {e:Tr} {s:St} {r:Tr×St} (hr:evD a ops w e s=some r):evD b ops w e s=some r:=by
 unfold evD at hr ⊢
 split at hr<;>try (cases hr; done)
 rename_i h1
 rw [Ev h h1]
 simp only
 split at hr<;>try (cases hr; done)
 rename_i h2
 rw [if_pos (Gc h h2)]
 exact hr
theorem Cu:∀ {c:C} {e:Tr} {s:St} {r:Ex×Tr×St},evC a c e s=some r→evC b c e s=some r
 | .skip,_,_,_,hr=>hr
 | .reg ops,e,s,r,hr=>by
   simp only [evC] at hr ⊢
   split at hr<;>try (cases hr; done)
   rename_i h1
   rw [GB h h1]; exact hr
 | .regD ops w,e,s,r,hr=>by
   simp only [evC] at hr ⊢
   split at hr<;>try (cases hr; done)
   rename_i h1
   rw [Ox h h1]; exact hr
 | .seq c d,e,s,r,hr=>by
   simp only [evC] at hr ⊢
   cases hc:evC a c e s with
   | none=>rw [hc] at hr; cases hr
   | some t =>
     obtain ⟨x,e1,s1⟩:=t
     rw [hc] at hr
     rw [Cu hc]
     cases x with
     | n=>exact Cu (c:=d) hr
     | x i=>exact hr
     | r=>exact hr
 | .cond x c d,e,s,r,hr=>by
   simp only [evC] at hr ⊢
   split at hr<;>try (cases hr; done)
   all_goals exact Cu hr
 | .blk i c,e,s,r,hr=>by
   simp only [evC] at hr ⊢
   cases hc:evC a c e s with
   | none=>rw [hc] at hr; cases hr
   | some t =>
     rw [hc] at hr
     rw [Cu hc]
     exact hr
 | .loop c,e,s,r,hr=>by
   simp only [evC] at hr ⊢
   cases hc:evC a c e s with
   | none=>rw [hc] at hr; cases hr
   | some t =>
     obtain ⟨x,e1,s1⟩:=t
     rw [hc] at hr
     rw [Cu hc]
     cases x with
     | n=>exact h.code hr
     | x i=>exact hr
     | r=>exact hr
 | .exit i,_,_,_,hr=>hr
 | .ret,_,_,_,hr=>hr
 | .rf f ps c d,e,s,r,hr=>by
   simp only [evC] at hr ⊢
   split at hr<;>try (cases hr; done)
   split at hr<;>try (cases hr; done)
   rename_i h1
   rw [h.call h1]; exact hr
 | .thw t,_,_,_,hr=>hr
 | .bad,_,_,_,hr=>hr
theorem Ms {fn:Fun} {args:List AV} {s:St} {r:AV×St} (hr:Hd a fn args s=some r):Hd b fn args s=some r:=by
 unfold Hd at hr ⊢
 cases hc:evC a fn.body (B7 0 args .e) { s with lo:=s.nb } with
 | none=>rw [hc] at hr; cases hr
 | some x =>
   rw [hc] at hr
   rw [Cu h hc]
   exact hr
theorem I7 {prog:Nat→Option Fun} {f:Nat} {args:List AV} {s:St} {r:AV×St} (hr:Fp prog a f args s=some r):Fp prog b f args s=some r:=by
 unfold Fp at hr ⊢
 split at hr<;>try (cases hr; done)
 rename_i fn hfn
 split at hr
 · exact hr
 split at hr<;>try (cases hr; done)
 rename_i hb
 split at hr
 · exact hr
 · exact Ms h hr
end mono
theorem Sub.trans {a b c:Self} (h:Sub a b) (k:Sub b c):Sub a c:=⟨fun hr=>k.call (h.call hr),fun hr=>k.code (h.code hr)⟩
theorem Jg (prog:Nat→Option Fun):∀ n,Sub (run prog n) (run prog (n+1))
 | 0=>⟨fun hr=>by simp [run] at hr,fun hr=>by simp [run] at hr⟩
 | n+1=>⟨fun hr=>I7 (Jg prog n) hr,fun hr=>Cu (Jg prog n) hr⟩
theorem Cg (prog:Nat→Option Fun) {m:Nat}:∀ {n:Nat},m≤n→Sub (run prog m) (run prog n)
 | 0, h => by have:m=0:=by omega
              subst this; exact ⟨id,id⟩
 | n+1,h=>by
   by_cases hm:m=n+1
   · subst hm; exact ⟨id,id⟩
   · exact (Cg prog (by omega)).trans (Jg prog n)
open Classical in
noncomputable def limO {α:Type} (F:Nat→Option α):Option α:=if h:∃ n,(F n).isSome=true then F h.choose else none
theorem Lz {α:Type} {F:Nat→Option α} (hm:∀ m n r,m≤n→F m=some r→F n=some r) (r:α):limO F=some r↔∃ n,F n=some r:=by
 unfold limO
 constructor
 · intro h
   split at h
   · exact ⟨_,h⟩
   · cases h
 · rintro ⟨n,h⟩
   have hex:∃ n,(F n).isSome=true:=⟨n,by rw [h]; rfl⟩
   rw [dif_pos hex]
   obtain ⟨r',hr'⟩:=Option.isSome_iff_exists.1 hex.choose_spec
   rw [hr']
   rcases Nat.le_total n hex.choose with hle | hle
   · rw [← hm _ _ _ hle h,hr']
   · rw [← hm _ _ _ hle hr',h]
noncomputable def lim (prog:Nat→Option Fun):Self :=
 { call:=fun f args s=>limO fun n=>(run prog n).call f args s,code:=fun c e s=>limO fun n=>(run prog n).code c e s }
section lim
variable {prog:Nat→Option Fun}
theorem BC {f:Nat} {args:List AV} {s:St} {r:AV×St}:(lim prog).call f args s=some r↔∃ n,(run prog n).call f args s=some r :=
 Lz (fun _ _ _ hle hr=>(Cg prog hle).call hr) r
theorem De {c:C} {e:Tr} {s:St} {r:Ex×Tr×St}:(lim prog).code c e s=some r↔∃ n,(run prog n).code c e s=some r :=
 Lz (fun _ _ _ hle hr=>(Cg prog hle).code hr) r
theorem NS (n:Nat):Sub (run prog n) (lim prog):=⟨fun hr=>BC.2 ⟨n,hr⟩,fun hr=>De.2 ⟨n,hr⟩⟩
theorem Mt {f:AV} {args:List AV} {s:St} {r:AV×St} (hr:G8 (lim prog) f args s=some r):∃ n,G8 (run prog n) f args s=some r:=by
 unfold G8 at hr ⊢
 split at hr<;>try (cases hr; done)
 · exact BC.1 hr
 · split at hr<;>try (cases hr; done)
   rename_i hb
   split at hr<;>try (cases hr; done)
   rename_i hp
   split at hr<;>try (cases hr; done)
   rename_i hc
   obtain ⟨n1,hc⟩:=De.1 hc
   split at hr<;>try (cases hr; done)
   rename_i hb2
   split at hr<;>try (cases hr; done)
   all_goals
    rename_i hc2
    obtain ⟨n2,hc2⟩:=De.1 hc2
    refine ⟨max n1 n2,?_⟩
    rw [(Cg prog (Nat.le_max_left n1 n2)).code hc]
    simp only [hb2]
    rw [(Cg prog (Nat.le_max_right n1 n2)).code hc2]
    exact hr
theorem Gd {e:Tr} {s:St} {op:AOp} {r:AV×St} (hr:evOp (lim prog) e s op=some r):∃ n,evOp (run prog n) e s op=some r:=by
 cases op<;>try exact ⟨0,hr⟩
 case callK f xs =>
  simp only [evOp] at hr ⊢
  exact BC.1 hr
 case callQ b f xs =>
  simp only [evOp] at hr ⊢
  split at hr<;>try (cases hr; done)
  split at hr<;>try (cases hr; done)
  rename_i h2
  obtain ⟨n,h2⟩:=BC.1 h2
  exact ⟨n,by rw [h2]; exact hr⟩
 case callI f xs =>
  simp only [evOp] at hr ⊢
  split at hr<;>try (cases hr; done)
  split at hr<;>try (cases hr; done)
  split at hr
  · obtain ⟨x,y,hA,hB⟩:=LU hr
    rw [hA,hB] at hr
    obtain ⟨n1,h1⟩:=BC.1 hA
    obtain ⟨n2,h2⟩:=BC.1 hB
    exact ⟨max n1 n2,by rw [(Cg prog (Nat.le_max_left n1 n2)).call h1,(Cg prog (Nat.le_max_right n1 n2)).call h2]; exact hr⟩
  · split at hr<;>try (cases hr; done)
    exact BC.1 hr
 case call f xs =>
  simp only [evOp] at hr ⊢
  split at hr<;>try (cases hr; done)
  exact BC.1 hr
 case callX f xs =>
  simp only [evOp] at hr ⊢
  split at hr<;>try (cases hr; done)
  exact Mt hr
 case inv t x xs =>
  simp only [evOp] at hr ⊢
  split at hr<;>try (cases hr; done)
  split at hr<;>try (cases hr; done)
  exact BC.1 hr
theorem HD:∀ {l:List Op} {e:Tr} {s:St} {r:Tr×St},EV (lim prog) l e s=some r→∃ n,EV (run prog n) l e s=some r
 | [],_,_,_,hr=>⟨0,hr⟩
 | o :: l,e,s,r,hr=>by
   simp only [EV] at hr
   by_cases hw:BE e o.guard=true
   · rw [if_pos hw] at hr
     split at hr<;>try (cases hr; done)
     rename_i v s1 hv
     obtain ⟨n1,hv⟩:=Gd hv
     obtain ⟨n2,hr⟩:=HD hr
     refine ⟨max n1 n2,?_⟩
     simp only [EV]
     rw [if_pos hw,Ea (Cg prog (Nat.le_max_left n1 n2)) hv]
     exact GB (Cg prog (Nat.le_max_right n1 n2)) hr
   · rw [if_neg hw] at hr
     obtain ⟨n,hr⟩:=HD hr
     exact ⟨n,by simp only [EV]; rw [if_neg hw]; exact hr⟩
theorem NT {c:Op} {e:Tr} {s:St} {r:Tr×St} (hr:evD1 (lim prog) c e s=some r):∃ n,evD1 (run prog n) c e s=some r:=by
 unfold evD1 at hr ⊢
 by_cases hw:BE e c.guard=true
 · rw [if_pos hw] at hr
   split at hr<;>try (cases hr; done)
   rename_i hq
   split at hr<;>try (cases hr; done)
   rename_i v s1 hv
   obtain ⟨n,hv⟩:=Gd hv
   exact ⟨n,by rw [if_pos hw,if_pos hq,hv]; exact hr⟩
 · rw [if_neg hw] at hr
   exact ⟨0,by rw [if_neg hw]; exact hr⟩
theorem IA:∀ {l:List Op} {e:Tr} {s:St} {r:List (Tr×St)},BB (lim prog) l e s=some r→∃ n,BB (run prog n) l e s=some r
 | [],_,_,_,hr=>⟨0,hr⟩
 | o::l,e,s,r,hr=>by
   simp only [BB] at hr
   split at hr<;>try (cases hr; done)
   rename_i h1
   split at hr<;>try (cases hr; done)
   rename_i h2
   obtain ⟨n1,h1⟩:=NT h1
   obtain ⟨n2,h2⟩:=IA h2
   refine ⟨max n1 n2,?_⟩
   simp only [BB]
   rw [Kd (Cg prog (Nat.le_max_left n1 n2)) h1]
   simp only
   rw [Ev (Cg prog (Nat.le_max_right n1 n2)) h2]
   exact hr
theorem LV {e:Tr} {op:AOp} {v:AV} {x:Option (Tr×St)} (hr:sameAt (lim prog) e op v x=true):∃ n,sameAt (run prog n) e op v x=true:=by
 cases x with
 | none=>exact ⟨0,hr⟩
 | some x =>
   obtain ⟨e1,s1⟩:=x
   simp only [sameAt,Bool.and_eq_true] at hr ⊢
   have h2:=hr.2
   split at h2<;>try (cases h2; done)
   rename_i hv
   obtain ⟨n,hv⟩:=Gd hv
   exact ⟨n,hr.1,by rw [hv]; exact h2⟩
theorem L3 {e:Tr} {op:AOp} {v:AV} {tr:List (Tr×St)}:∀ {l:List Nat},(l.all fun k=>sameAt (lim prog) e op v tr[k]?)=true→∃ n,(l.all fun k=>sameAt (run prog n) e op v tr[k]?)=true
 | [],_=>⟨0,rfl⟩
 | k::l,h=>by
   simp only [List.all_cons,Bool.and_eq_true] at h
   obtain ⟨n1,h1⟩:=LV h.1
   obtain ⟨n2,h2⟩:=L3 h.2
   refine ⟨max n1 n2,?_⟩
   simp only [List.all_cons,Bool.and_eq_true,List.all_eq_true] at h2 ⊢
   exact ⟨Ew (Cg prog (Nat.le_max_left n1 n2)) h1,fun x hx=>Ew (Cg prog (Nat.le_max_right n1 n2)) (h2 x hx)⟩
theorem Ke {ops:List Op} {tr:List (Tr×St)}:∀ {w:List (Nat×Nat×Nat)},chkD (lim prog) ops tr w=true→∃ n,chkD (run prog n) ops tr w=true
 | [],_=>⟨0,rfl⟩
 | (i,lo,hi)::l,hr=>by
   simp only [chkD,Bool.and_eq_true] at hr
   obtain ⟨n2,h2⟩:=Ke hr.2
   have h1:=hr.1
   split at h1<;>try (cases h1; done)
   rename_i o e s ho ht
   rw [Bool.or_eq_true] at h1
   rcases h1 with h1 | h1
   · exact ⟨n2,by simp only [chkD,Bool.and_eq_true,ho,ht,Bool.or_eq_true]; exact ⟨.inl h1,h2⟩⟩
   · split at h1<;>try (cases h1; done)
     rename_i v s1 hv
     obtain ⟨n0,hv⟩:=Gd hv
     obtain ⟨n1,h1⟩:=L3 h1
     refine ⟨max n0 (max n1 n2),?_⟩
     simp only [chkD,Bool.and_eq_true,ho,ht,Bool.or_eq_true]
     refine ⟨.inr ?_,Gc (Cg prog (Nat.le_trans (Nat.le_max_right n1 n2) (Nat.le_max_right _ _))) h2⟩
     rw [Ea (Cg prog (Nat.le_max_left n0 _)) hv]
     simp only [List.all_eq_true] at h1 ⊢
     exact fun x hx=>Ew (Cg prog (Nat.le_trans (Nat.le_max_left n1 n2) (Nat.le_max_right _ _))) (h1 x hx)
theorem Oy {ops:List Op} {w:List (Nat×Nat×Nat)} {e:Tr} {s:St} {r:Tr×St} (hr:evD (lim prog) ops w e s=some r):∃ n,evD (run prog n) ops w e s=some r:=by
 unfold evD at hr
 split at hr<;>try (cases hr; done)
 rename_i h1
 split at hr<;>try (cases hr; done)
 rename_i h2
 obtain ⟨n1,h1⟩:=IA h1
 obtain ⟨n2,h2⟩:=Ke h2
 refine ⟨max n1 n2,?_⟩
 unfold evD
 rw [Ev (Cg prog (Nat.le_max_left n1 n2)) h1]
 simp only
 rw [if_pos (Gc (Cg prog (Nat.le_max_right n1 n2)) h2)]
 exact hr
theorem Ey:∀ {c:C} {e:Tr} {s:St} {r:Ex×Tr×St},evC (lim prog) c e s=some r→∃ n,evC (run prog n) c e s=some r
 | .skip,_,_,_,hr=>⟨0,hr⟩
 | .reg ops,e,s,r,hr=>by
   simp only [evC] at hr ⊢
   split at hr<;>try (cases hr; done)
   rename_i h1
   obtain ⟨n,h1⟩:=HD h1
   exact ⟨n,by rw [h1]; exact hr⟩
 | .regD ops w,e,s,r,hr=>by
   simp only [evC] at hr ⊢
   split at hr<;>try (cases hr; done)
   rename_i h1
   obtain ⟨n,h1⟩:=Oy h1
   exact ⟨n,by rw [h1]; exact hr⟩
 | .seq c d,e,s,r,hr=>by
   simp only [evC] at hr ⊢
   cases hc:evC (lim prog) c e s with
   | none=>rw [hc] at hr; cases hr
   | some t =>
     obtain ⟨x,e1,s1⟩:=t
     rw [hc] at hr
     obtain ⟨n1,h1⟩:=Ey hc
     cases x with
     | n =>
       obtain ⟨n2,hr⟩:=Ey (c:=d) hr
       exact ⟨max n1 n2,by rw [Cu (Cg prog (Nat.le_max_left n1 n2)) h1]; exact Cu (Cg prog (Nat.le_max_right n1 n2)) hr⟩
     | x i=>exact ⟨n1,by rw [h1]; exact hr⟩
     | r=>exact ⟨n1,by rw [h1]; exact hr⟩
 | .cond x c d,e,s,r,hr=>by
   simp only [evC] at hr ⊢
   split at hr<;>try (cases hr; done)
   all_goals exact Ey hr
 | .blk i c,e,s,r,hr=>by
   simp only [evC] at hr ⊢
   cases hc:evC (lim prog) c e s with
   | none=>rw [hc] at hr; cases hr
   | some t =>
     rw [hc] at hr
     obtain ⟨n1,h1⟩:=Ey hc
     exact ⟨n1,by rw [h1]; exact hr⟩
 | .loop c,e,s,r,hr=>by
   simp only [evC] at hr ⊢
   cases hc:evC (lim prog) c e s with
   | none=>rw [hc] at hr; cases hr
   | some t =>
     obtain ⟨x,e1,s1⟩:=t
     rw [hc] at hr
     obtain ⟨n1,h1⟩:=Ey hc
     cases x with
     | n =>
       obtain ⟨n2,hr⟩:=De.1 hr
       exact ⟨max n1 n2,by rw [Cu (Cg prog (Nat.le_max_left n1 n2)) h1]; exact (Cg prog (Nat.le_max_right n1 n2)).code hr⟩
     | x i=>exact ⟨n1,by rw [h1]; exact hr⟩
     | r=>exact ⟨n1,by rw [h1]; exact hr⟩
 | .exit i,_,_,_,hr=>⟨0,hr⟩
 | .ret,_,_,_,hr=>⟨0,hr⟩
 | .rf f ps c d,e,s,r,hr=>by
   simp only [evC] at hr ⊢
   split at hr<;>try (cases hr; done)
   split at hr<;>try (cases hr; done)
   rename_i h1
   obtain ⟨n1,h1⟩:=BC.1 h1
   exact ⟨n1,by rw [h1]; exact hr⟩
 | .thw t,_,_,_,hr=>⟨0,hr⟩
 | .bad,_,_,_,hr=>⟨0,hr⟩
theorem Mu {f:Nat} {args:List AV} {s:St} {r:AV×St} (hr:Fp prog (lim prog) f args s=some r):∃ n,Fp prog (run prog n) f args s=some r:=by
 unfold Fp at hr ⊢
 split at hr<;>try (cases hr; done)
 rename_i fn hfn
 split at hr
 · exact ⟨0,hr⟩
 split at hr<;>try (cases hr; done)
 rename_i hb
 split at hr
 · exact ⟨0,hr⟩
 unfold Hd at hr ⊢
 cases hc:evC (lim prog) fn.body (B7 0 (wkZ fn.cin args) .e) { s with lo:=s.nb } with
 | none=>rw [hc] at hr; cases hr
 | some x =>
   rw [hc] at hr
   obtain ⟨n,hc⟩:=Ey hc
   exact ⟨n,by rw [hc]; exact hr⟩
theorem NU {α:Type} {x y:Option α} (h:∀ r,x=some r↔y=some r):x=y:=by
 cases x with
 | none=>cases y with
   | none=>rfl
   | some y=>exact absurd ((h y).2 rfl) (by simp)
 | some x=>exact ((h x).1 rfl).symm
theorem Ez (f:Nat) (args:List AV) (s:St):(lim prog).call f args s=Fp prog (lim prog) f args s:=by
 apply NU
 intro r
 rw [BC]
 constructor
 · rintro ⟨n,h⟩
   cases n with
   | zero=>simp [run] at h
   | succ n=>exact I7 (NS n) h
 · intro h
   obtain ⟨n,h⟩:=Mu h
   exact ⟨n+1,h⟩
theorem Oz (c:C) (e:Tr) (s:St):(lim prog).code c e s=evC (lim prog) c e s:=by
 apply NU
 intro r
 rw [De]
 constructor
 · rintro ⟨n,h⟩
   cases n with
   | zero=>simp [run] at h
   | succ n=>exact Cu (NS n) h
 · intro h
   obtain ⟨n,h⟩:=Ey h
   exact ⟨n+1,h⟩
end lim
end Go.Proofs.Ytfpoihibfajhlaa.Am

namespace Go.Proofs.Ytfpoihibfajhlaa.Am
theorem IW (e:Tr) (d:Nat) (v:AV) (t:Nat) (h:d < 1000):(e.set 10 d v).get t=if t=d then v else e.get t:=D5 10 e d v (by omega) t
theorem BU (e:Tr) (d:Nat) (v:AV):put e (some d) v=e.set 10 d v:=rfl
theorem Bi (e:Tr) (v:AV):put e none v=e:=rfl
theorem AQ (s:St) (B:Box):(s.new B).box? s.nb=some B:=by rw [new_box?,if_pos rfl]
theorem Ch (s:St) (B:Box):(s.new B).nb=s.nb+1:=rfl
theorem B9 (s:St) (B B':Box):(s.new B).setBox s.nb B'=s.new B':=by
 simp [St.new,St.setBox]
/-! ### Numbers and texts -/
section bins
variable (k:IntKind) (a b:Int) (x y:List Nat)
theorem C8:Am.binOp .add (.i k a) (.i k b)=some (.i k (k.wrap (a+b))):=by simp [Am.binOp,GV]
theorem C9:Am.binOp .sub (.i k a) (.i k b)=some (.i k (k.wrap (a - b))):=by simp [Am.binOp,GV]
theorem DA:Am.binOp .mul (.i k a) (.i k b)=some (.i k (k.wrap (a*b))):=by simp [Am.binOp,GV]
theorem DB:Am.binOp .eql (.i k a) (.i k b)=some (.b (decide (a=b))):=by simp [Am.binOp,GV]; rfl
theorem DC:Am.binOp .neq (.i k a) (.i k b)=some (.b (decide (a≠b))):=by
 simp only [Am.binOp,GV,if_true]
 by_cases h:a=b<;>simp [h]
theorem DD:Am.binOp .lss (.i k a) (.i k b)=some (.b (decide (a < b))):=by simp [Am.binOp,GV]
theorem DE:Am.binOp .leq (.i k a) (.i k b)=some (.b (decide (a≤b))):=by simp [Am.binOp,GV]
theorem DF:Am.binOp .gtr (.i k a) (.i k b)=some (.b (decide (b < a))):=by simp [Am.binOp,GV]
theorem DG:Am.binOp .geq (.i k a) (.i k b)=some (.b (decide (b≤a))):=by simp [Am.binOp,GV]
theorem Gr:∀ (a b:List Nat),beqN a b=decide (a=b)
 | [],[]=>rfl
 | [],_::_=>by simp [beqN]
 | _::_,[]=>by simp [beqN]
 | a::l,b::m=>by
   simp only [beqN,Gr l m,List.cons.injEq]
   rw [Bool.eq_iff_iff]
   simp
theorem DH:Am.binOp .eql (.s x) (.s y)=some (.b (decide (x=y))):=by simp [Am.binOp,Ml,Gr]
theorem DI:Am.binOp .neq (.s x) (.s y)=some (.b (decide (x≠y))):=by
 simp only [Am.binOp,Ml,Gr]
 by_cases h:x=y<;>simp [h]
theorem DJ:Am.binOp .lss (.s x) (.s y)=some (.b (ltN x y)):=by simp [Am.binOp,Ml]
theorem DK (k:IntKind) (a b:Int):Ix 0 (.i k a) (.i k b)=some (decide (a=b)):=by simp [Ix]; rfl
theorem DL (x y:List Nat):Ix 1 (.s x) (.s y)=some (decide (x=y)):=by simp [Ix,Gr]
end bins
theorem FO (s:St) (id:Nat) (k:IntKind) (n:Int):esc s id (.i k n)=s:=rfl
theorem FP (s:St) (id:Nat) (l:List Nat):esc s id (.s l)=s:=rfl
theorem FQ (s:St) (id:Nat) (b:Bool):esc s id (.b b)=s:=rfl
end Go.Proofs.Ytfpoihibfajhlaa.Am

namespace Go.Proofs.Ytfpoihibfajhlaa.Am
section
variable {σ:Self} {e:Tr} {s:St}
def W (σ:Self) (c:C) (e:Tr) (s:St) (Q:Ex→Tr→St→Prop):Prop:=match evC σ c e s with
 | some (x,e',s')=>Q x e' s'
 | none=>False
def WO (σ:Self) (l:List Op) (e:Tr) (s:St) (Q:Tr→St→Prop):Prop:=match EV σ l e s with
 | some (e',s')=>Q e' s'
 | none=>False
def WS (o:Option (AV×St)) (K:AV→St→Prop):Prop:=match o with
 | some (v,s')=>K v s'
 | none=>False
def CP (v:AV) (A B:Prop):Prop:=match v with
 | .b true=>A
 | .b false=>B
 | _=>False
/-! ### What goes on behind -/
def KS (σ:Self) (b:C) (Q:Ex→Tr→St→Prop):Ex→Tr→St→Prop
 | .n,e,s=>W σ b e s Q
 | .x i,e,s=>Q (.x i) e s
 | .r,e,s=>Q .r e s
def KB (id:Nat) (Q:Ex→Tr→St→Prop):Ex→Tr→St→Prop
 | .x j,e,s=>if j=id then Q .n e s else Q (.x j) e s
 | .n,e,s=>Q .n e s
 | .r,e,s=>Q .r e s
def KN (Q:Ex→Tr→St→Prop):Tr→St→Prop:=fun e s=>Q .n e s
def KO (σ:Self) (d:Option Nat) (l:List Op) (e:Tr) (Q:Tr→St→Prop):AV→St→Prop:=fun v s=>WO σ l (put e d v) s Q
def KL (I:Nat→Tr→St→Prop) (n:Nat) (Q:Ex→Tr→St→Prop):Ex→Tr→St→Prop
 | .n,e,s=>∃ m,m < n∧I m e s
 | .x i,e,s=>Q (.x i) e s
 | .r,e,s=>Q .r e s
theorem KS_n (b:C) (Q:Ex→Tr→St→Prop):KS σ b Q .n e s↔W σ b e s Q:=Iff.rfl
theorem KS_x (b:C) (Q:Ex→Tr→St→Prop) (i:Nat):KS σ b Q (.x i) e s↔Q (.x i) e s:=Iff.rfl
theorem KS_r (b:C) (Q:Ex→Tr→St→Prop):KS σ b Q .r e s↔Q .r e s:=Iff.rfl
theorem KB_n (id:Nat) (Q:Ex→Tr→St→Prop):KB id Q .n e s↔Q .n e s:=Iff.rfl
theorem KB_x (id:Nat) (Q:Ex→Tr→St→Prop) (j:Nat):KB id Q (.x j) e s↔if j=id then Q .n e s else Q (.x j) e s:=Iff.rfl
theorem KB_r (id:Nat) (Q:Ex→Tr→St→Prop):KB id Q .r e s↔Q .r e s:=Iff.rfl
theorem FR (Q:Ex→Tr→St→Prop):KN Q e s↔Q .n e s:=Iff.rfl
theorem FS (d:Option Nat) (l:List Op) (e0:Tr) (Q:Tr→St→Prop) (v:AV):KO σ d l e0 Q v s↔WO σ l (put e0 d v) s Q:=Iff.rfl
theorem KL_n (I:Nat→Tr→St→Prop) (n:Nat) (Q:Ex→Tr→St→Prop):KL I n Q .n e s↔∃ m,m < n∧I m e s:=Iff.rfl
theorem KL_x (I:Nat→Tr→St→Prop) (n:Nat) (Q:Ex→Tr→St→Prop) (i:Nat):KL I n Q (.x i) e s↔Q (.x i) e s:=Iff.rfl
theorem KL_r (I:Nat→Tr→St→Prop) (n:Nat) (Q:Ex→Tr→St→Prop):KL I n Q .r e s↔Q .r e s:=Iff.rfl
/-! ### Where the laws of simp may go -/
@[congr] theorem W_congr {c:C} {e e':Tr} {s s':St} {Q:Ex→Tr→St→Prop} (h1:e=e') (h2:s=s'):W σ c e s Q=W σ c e' s' Q:=by rw [h1,h2]
@[congr] theorem WO_congr {l:List Op} {e e':Tr} {s s':St} {Q:Tr→St→Prop} (h1:e=e') (h2:s=s'):WO σ l e s Q=WO σ l e' s' Q:=by rw [h1,h2]
@[congr] theorem WS_congr {o o':Option (AV×St)} {K:AV→St→Prop} (h:o=o'):WS o K=WS o' K:=by rw [h]
@[congr] theorem CP_congr {v v':AV} {A B:Prop} (h:v=v'):CP v A B=CP v' A B:=by rw [h]
@[congr] theorem KS_congr {b:C} {Q:Ex→Tr→St→Prop} {x:Ex} {e e':Tr} {s s':St} (h1:e=e') (h2:s=s'):KS σ b Q x e s=KS σ b Q x e' s':=by rw [h1,h2]
@[congr] theorem KB_congr {id:Nat} {Q:Ex→Tr→St→Prop} {x:Ex} {e e':Tr} {s s':St} (h1:e=e') (h2:s=s'):KB id Q x e s=KB id Q x e' s':=by rw [h1,h2]
@[congr] theorem KN_congr {Q:Ex→Tr→St→Prop} {e e':Tr} {s s':St} (h1:e=e') (h2:s=s'):KN Q e s=KN Q e' s':=by rw [h1,h2]
@[congr] theorem KO_congr {d:Option Nat} {l:List Op} {e0 e0':Tr} {Q:Tr→St→Prop} {v v':AV} {s s':St} (h0:e0=e0') (h1:v=v') (h2:s=s'):KO σ d l e0 Q v s=KO σ d l e0' Q v' s':=by rw [h0,h1,h2]
@[congr] theorem KL_congr {I:Nat→Tr→St→Prop} {n:Nat} {Q:Ex→Tr→St→Prop} {x:Ex} {e e':Tr} {s s':St} (h1:e=e') (h2:s=s'):KL I n Q x e s=KL I n Q x e' s':=by rw [h1,h2]
/-! ### Code -/
variable {Q:Ex→Tr→St→Prop}
theorem DM:W σ .skip e s Q↔Q .n e s:=Iff.rfl
theorem DN (i:Nat):W σ (.exit i) e s Q↔Q (.x i) e s:=Iff.rfl
theorem FT:W σ .ret e s Q↔Q .r e s:=Iff.rfl
theorem FU (l:List Op):W σ (.reg l) e s Q↔WO σ l e s (KN Q):=by
 unfold W WO KN
 simp only [evC]
 cases EV σ l e s<;>exact Iff.rfl
theorem FV (a b:C):W σ (.seq a b) e s Q↔W σ a e s (KS σ b Q):=by
 unfold W
 simp only [evC]
 cases evC σ a e s with
 | none=>exact Iff.rfl
 | some r =>
   obtain ⟨x,e1,s1⟩:=r
   cases x<;>exact Iff.rfl
theorem Ab (c:X) (a b:C):W σ (.cond c a b) e s Q↔CP (c.ev e) (W σ a e s Q) (W σ b e s Q):=by
 unfold W CP
 simp only [evC]
 cases c.ev e with
 | b x=>cases x<;>exact Iff.rfl
 | _=>exact Iff.rfl
theorem FW (i:Nat) (b:C):W σ (.blk i b) e s Q↔W σ b e s (KB i Q):=by
 unfold W
 simp only [evC]
 cases evC σ b e s with
 | none=>exact Iff.rfl
 | some r =>
   obtain ⟨x,e1,s1⟩:=r
   cases x with
   | n=>exact Iff.rfl
   | r=>exact Iff.rfl
   | x j =>
     simp only [KB]
     by_cases hj:j=i
     · rw [if_pos hj,if_pos hj]
     · rw [if_neg hj,if_neg hj]
theorem FM {prog:Nat→Option Fun} {b:C} (I:Nat→Tr→St→Prop) (h:∀ n e s,I n e s→W (lim prog) b e s (KL I n Q)):∀ n e s,I n e s→W (lim prog) (.loop b) e s Q:=by
 intro n
 induction n using Nat.strongRecOn with
 | _ n ih =>
   intro e s hI
   have h1:=h n e s hI
   unfold W at h1 ⊢
   simp only [evC]
   cases hc:evC (lim prog) b e s with
   | none=>rw [hc] at h1; exact h1
   | some r =>
     obtain ⟨x,e1,s1⟩:=r
     rw [hc] at h1
     cases x with
     | n =>
       obtain ⟨m,hm,hI1⟩:=h1
       have:=ih m hm e1 s1 hI1
       unfold W at this
       rw [← Oz] at this
       exact this
     | x i=>exact h1
     | r=>exact h1
/-! ### Operations -/
variable {R:Tr→St→Prop}
theorem DP:WO σ [] e s R↔R e s:=Iff.rfl
theorem CA (d:Option Nat) (op:AOp) (l:List Op):WO σ (⟨d,op,none⟩::l) e s R↔WS (evOp σ e s op) (KO σ d l e R):=by
 unfold WO WS KO
 simp only [EV,BE,if_true]
 cases evOp σ e s op<;>exact Iff.rfl
theorem PX (d:Option Nat) (op:AOp) (l:List Op) (t:Nat) (w:Bool):WO σ (⟨d,op,some (t,w)⟩::l) e s R ↔
    if BE e (some (t,w))=true then WS (evOp σ e s op) (KO σ d l e R) else WO σ l (put e d undef) s R:=by
 unfold WO WS KO
 simp only [EV]
 by_cases h:BE e (some (t,w))=true
 · rw [if_pos h,if_pos h]
   cases evOp σ e s op<;>exact Iff.rfl
 · rw [if_neg h,if_neg h]
theorem CB (v:AV) (s:St) (K:AV→St→Prop):WS (some (v,s)) K↔K v s:=Iff.rfl
theorem CD (K:AV→St→Prop):WS none K↔False:=Iff.rfl
theorem CF (A B:Prop):CP (.b true) A B↔A:=Iff.rfl
theorem Bj (A B:Prop):CP (.b false) A B↔B:=Iff.rfl
theorem CP_of {b:Bool} {A B:Prop} (h1:b=true→A) (h2:b=false→B):CP (.b b) A B:=by
 cases b with
 | true=>exact h1 rfl
 | false=>exact h2 rfl
theorem MU {p:Prop} [Decidable p] {A B:Prop} (h1:p→A) (h2:¬ p→B):CP (.b (decide p)) A B :=
 CP_of (fun h=>h1 (of_decide_eq_true h)) (fun h=>h2 (of_decide_eq_false h))
/-! ### Regions that draw -/
def WD (σ:Self) (l:List Op) (e:Tr) (s:St) (tr:List (Tr×St)) (Q:List (Tr×St)→Tr→St→Prop):Prop:=match BB σ l e s with
 | some r=>match FN r with
   | some (e',s')=>Q (tr++r) e' s'
   | none=>False
 | none=>False
def KD (σ:Self) (d:Option Nat) (l:List Op) (e:Tr) (tr:List (Tr×St)) (Q:List (Tr×St)→Tr→St→Prop):AV→St→Prop:=fun v s=>WD σ l (put e d v) s tr Q
def KC (σ:Self) (ops:List Op) (wins:List (Nat×Nat×Nat)) (Q:Ex→Tr→St→Prop):List (Tr×St)→Tr→St→Prop:=fun tr e s=>chkD σ ops tr wins=true∧Q .n e s
theorem FX (d:Option Nat) (l:List Op) (e0:Tr) (tr:List (Tr×St)) (Q:List (Tr×St)→Tr→St→Prop) (v:AV):KD σ d l e0 tr Q v s↔WD σ l (put e0 d v) s tr Q:=Iff.rfl
theorem DQ (ops:List Op) (tr:List (Tr×St)):KC σ ops [] Q tr e s↔Q .n e s:=by simp [KC,chkD]
@[congr] theorem WD_congr {l:List Op} {e e':Tr} {s s':St} {tr tr':List (Tr×St)} {Q:List (Tr×St)→Tr→St→Prop} (h1:e=e') (h2:s=s') (h3:tr=tr'):WD σ l e s tr Q=WD σ l e' s' tr' Q:=by rw [h1,h2,h3]
@[congr] theorem KD_congr {d:Option Nat} {l:List Op} {e0 e0':Tr} {tr tr':List (Tr×St)} {Q:List (Tr×St)→Tr→St→Prop} {v v':AV} {s s':St} (h0:e0=e0') (h1:v=v') (h2:s=s') (h3:tr=tr'):KD σ d l e0 tr Q v s=KD σ d l e0' tr' Q v' s':=by rw [h0,h1,h2,h3]
@[congr] theorem KC_congr {ops:List Op} {w:List (Nat×Nat×Nat)} {Q:Ex→Tr→St→Prop} {tr tr':List (Tr×St)} {e e':Tr} {s s':St} (h1:tr=tr') (h2:e=e') (h3:s=s'):KC σ ops w Q tr e s=KC σ ops w Q tr' e' s':=by rw [h1,h2,h3]
theorem GD {x:Tr×St} {r:List (Tr×St)} (h:r≠[]):FN (x::r)=FN r:=by
 cases r with
 | nil=>exact absurd rfl h
 | cons y r=>rfl
theorem Gt:∀ {l:List Op} {e:Tr} {s:St} {r:List (Tr×St)},BB σ l e s=some r→r≠[]
 | [],e,s,r,h=>by simp only [BB] at h; cases h; simp
 | o::l,e,s,r,h=>by
   simp only [BB] at h
   split at h<;>try (cases h; done)
   split at h<;>try (cases h; done)
   cases h; simp
theorem Aa (l:List Op) (w:List (Nat×Nat×Nat)):W σ (.regD l w) e s Q↔WD σ l e s [] (KC σ l w Q):=by
 unfold W WD KC
 simp only [evC,evD]
 cases h:BB σ l e s with
 | none=>exact Iff.rfl
 | some r =>
   simp only [List.nil_append]
   by_cases hc:chkD σ l r w=true
   · rw [if_pos hc]
     cases hl:FN r with
     | none=>exact Iff.rfl
     | some t=>obtain ⟨e1,s1⟩:=t; simp [hc]
   · rw [if_neg hc]
     cases hl:FN r with
     | none=>exact Iff.rfl
     | some t=>obtain ⟨e1,s1⟩:=t; simp [hc]
theorem DR {Q:List (Tr×St)→Tr→St→Prop} (tr:List (Tr×St)):WD σ [] e s tr Q↔Q (tr++[(e,s)]) e s:=Iff.rfl
theorem N9 {Q:List (Tr×St)→Tr→St→Prop} (o:Op) (l:List Op) (tr:List (Tr×St)) :
    WD σ (o::l) e s tr Q↔(match evD1 σ o e s with | some (e1,s1)=>WD σ l e1 s1 (tr++[(e,s)]) Q | none=>False):=by
 unfold WD
 simp only [BB]
 cases h:evD1 σ o e s with
 | none=>exact Iff.rfl
 | some r =>
   obtain ⟨e1,s1⟩:=r
   simp only
   cases ht:BB σ l e1 s1 with
   | none=>exact Iff.rfl
   | some r =>
     simp only [GD (Gt ht),List.append_assoc,List.cons_append,List.nil_append]
theorem CH {Q:List (Tr×St)→Tr→St→Prop} (d:Option Nat) (op:AOp) (l:List Op) (tr:List (Tr×St)) :
    WD σ (⟨d,op,none⟩::l) e s tr Q↔(Nat.beq op.cls 2||BF e s op)=true∧WS (evOp σ e s op) (KD σ d l e (tr++[(e,s)]) Q):=by
 rw [N9]
 unfold WS KD
 simp only [evD1,BE,if_true]
 by_cases hq:(Nat.beq op.cls 2||BF e s op)=true
 · rw [if_pos hq]
   simp only [hq,true_and]
   cases evOp σ e s op<;>exact Iff.rfl
 · rw [if_neg hq]
   simp [hq]
theorem PY {Q:List (Tr×St)→Tr→St→Prop} (d:Option Nat) (op:AOp) (l:List Op) (tr:List (Tr×St)) (t:Nat) (w:Bool) :
    WD σ (⟨d,op,some (t,w)⟩::l) e s tr Q↔if BE e (some (t,w))=true then (Nat.beq op.cls 2||BF e s op)=true∧WS (evOp σ e s op) (KD σ d l e (tr++[(e,s)]) Q) else WD σ l (put e d undef) s (tr++[(e,s)]) Q:=by
 rw [N9]
 unfold WS KD
 simp only [evD1]
 by_cases hw:BE e (some (t,w))=true
 · rw [if_pos hw,if_pos hw]
   by_cases hq:(Nat.beq op.cls 2||BF e s op)=true
   · rw [if_pos hq]
     simp only [hq,true_and]
     cases evOp σ e s op<;>exact Iff.rfl
   · rw [if_neg hq]
     simp [hq]
 · rw [if_neg hw,if_neg hw]
end
/-! ### Functions -/
def St.enter (s:St):St:={ s with lo:=s.nb }
structure Over (s s1:St):Prop where
 nb:s.nb≤s1.nb
 boxes:s1.boxes.drop (s1.nb - s.nb)=s.boxes
 nt:s.nt≤s1.nt
 toks:s1.toks.drop (s1.nt - s.nt)=s.toks
 lo:s.nb≤s1.lo
def St.withTok (s:St) (t:Tok):St:={ s with nt:=s.nt+1,toks:=some t::s.toks }
section over
variable {s s1:St}
theorem Over.enter (s:St):Over s s.enter:=⟨Nat.le_refl _,by simp [St.enter],Nat.le_refl _,by simp [St.enter],Nat.le_refl _⟩
theorem Over.new (h:Over s s1) (B:Box):Over s (s1.new B):=by
 refine ⟨Nat.le_succ_of_le h.nb,?_,h.nt,h.toks,h.lo⟩
 have:=h.nb
 simp only [St.new]
 rw [show s1.nb+1 - s.nb=(s1.nb - s.nb)+1 by omega]
 exact h.boxes
theorem Over.withTok (h:Over s s1) (t:Tok):Over s (s1.withTok t):=by
 refine ⟨h.nb,h.boxes,Nat.le_succ_of_le h.nt,?_,h.lo⟩
 have:=h.nt
 simp only [St.withTok]
 rw [show s1.nt+1 - s.nt=(s1.nt - s.nt)+1 by omega]
 exact h.toks
theorem Over.setBox (h:Over s s1) {id:Nat} (hid:s.nb≤id) (h2:id < s1.nb) (B:Box):Over s (s1.setBox id B):=by
 refine ⟨h.nb,?_,h.nt,h.toks,h.lo⟩
 simp only [St.setBox]
 rw [List.drop_set_of_lt (by omega)]
 exact h.boxes
theorem Over.setTok (h:Over s s1) {k:Nat} (hk:s.nt≤k) (h2:k < s1.nt) (t:Tok):Over s (s1.setTok k t):=by
 refine ⟨h.nb,h.boxes,h.nt,?_,h.lo⟩
 simp only [St.setTok]
 rw [List.drop_set_of_lt (by omega)]
 exact h.toks
theorem Over.esc (h:Over s s1) {id:Nat} (hid:s.nb≤id) (v:AV):Over s (esc s1 id v):=by
 unfold Am.esc
 split
 · exact ⟨h.nb,h.boxes,h.nt,h.toks,by simp only; have:=h.lo; omega⟩
 · exact h
theorem Over.leave (h:Over s s1) {v:AV} (hv:v.refs=false):leave s s1 v=s:=by
 unfold Am.leave
 rw [hv,show Nat.ble s.nb s1.lo=true by rw [Nat.ble_eq]; exact h.lo]
 simp only [Bool.not_false,Bool.and_self,if_true]
 rw [h.boxes,h.toks]
end over
def KF (s:St) (res:List (Nat×Option (Bool×Nat))) (cout:List CT) (r:AV):Ex→Tr→St→Prop
 | .x _,_,_=>False
 | .n,e,s1=>∃ vs s2,Cc e s1 res=some (vs,s2)∧Over s s2∧(Af vs).refs=false∧Af (wkZ cout vs)=r
 | .r,e,s1=>∃ vs s2,Cc e s1 res=some (vs,s2)∧Over s s2∧(Af vs).refs=false∧Af (wkZ cout vs)=r
def KR (s:St) (cout:List CT) (r:AV) (o:Option (List AV×St)):Prop:=∃ vs s2,o=some (vs,s2)∧Over s s2∧(Af vs).refs=false∧Af (wkZ cout vs)=r
theorem KF_n (s:St) (res:List (Nat×Option (Bool×Nat))) (cout:List CT) (r:AV) (e:Tr) (s1:St):KF s res cout r .n e s1↔KR s cout r (Cc e s1 res):=Iff.rfl
theorem KF_r (s:St) (res:List (Nat×Option (Bool×Nat))) (cout:List CT) (r:AV) (e:Tr) (s1:St):KF s res cout r .r e s1↔KR s cout r (Cc e s1 res):=Iff.rfl
@[congr] theorem KF_congr {s:St} {res:List (Nat×Option (Bool×Nat))} {cout:List CT} {r:AV} {x:Ex} {e e':Tr} {s1 s1':St} (h1:e=e') (h2:s1=s1'):KF s res cout r x e s1=KF s res cout r x e' s1':=by rw [h1,h2]
@[congr] theorem KR_congr {s:St} {cout:List CT} {r:AV} {o o':Option (List AV×St)} (h:o=o'):KR s cout r o=KR s cout r o':=by rw [h]
theorem AW {s:St} {cout:List CT} {r:AV} {vs:List AV} {s2:St} (h1:Over s s2) (h2:(Af vs).refs=false) (h3:Af (wkZ cout vs)=r):KR s cout r (some (vs,s2)):=⟨vs,s2,rfl,h1,h2,h3⟩
theorem fn_W {prog:Nat→Option Fun} {f:Nat} {fn:Fun} {args:List AV} {s:St} {r:AV} (hp:prog f=some fn) (hk:fn.keep=false) (hn:Nat.ble args.length fn.ntmps=true)
    (h:W (lim prog) fn.body (B7 0 (wkZ fn.cin args) .e) s.enter (KF s fn.res fn.cout r)) (hpr:fn.prim=none:=by rfl):(lim prog).call f args s=some (r,s):=by
 rw [Ez]
 unfold Fp
 have hb:∀ l,both fn l=none:=fun l=>by unfold both; rw [hk]
 simp only [hp,hpr,hn,hb]
 unfold Hd
 unfold W St.enter at h
 cases hc:evC (lim prog) fn.body (B7 0 (wkZ fn.cin args) .e) { s with lo:=s.nb } with
 | none=>rw [hc] at h; exact h.elim
 | some t =>
 obtain ⟨x,e,s1⟩:=t
 rw [hc] at h
 have h2:=h
 cases x with
 | x i=>exact h2.elim
 | n =>
   obtain ⟨vs,s2,k1,k2,k3,k4⟩:=h2
   simp only [hk]
   rw [k1]
   simp only
   rw [k4,k2.leave k3]
 | r =>
   obtain ⟨vs,s2,k1,k2,k3,k4⟩:=h2
   simp only [hk]
   rw [k1]
   simp only
   rw [k4,k2.leave k3]
/-! Lean choices: of an unknown only the test is looked at. -/
def sel (c:Bool) (a b:AV):AV:=cond c a b
@[congr] theorem sel_congr {c c':Bool} {a b:AV} (h:c=c'):sel c a b=sel c' a b:=by rw [h]
theorem FY (a b:AV):sel true a b=a:=rfl
theorem FZ (a b:AV):sel false a b=b:=rfl
theorem Bk (e:Tr) (d:Nat) (v:AV) (t:Nat) (h:d < 1000):(e.set 10 d v).get t=sel (t==d) v (e.get t):=by
 rw [IW e d v t h]
 by_cases h:t=d
 · subst h; simp [sel]
 · have:(t==d)=false:=by simpa using h
   simp [sel,h,this]
def Hf (v:AV) (w:Bool):AV:=match v with
 | .b x=>.b (x==w)
 | _=>.b false
theorem CI (x w:Bool):Hf (.b x) w=.b (x==w):=rfl
theorem Jt {e:Tr} {t:Nat} {w:Bool} {A B:Prop}:(if BE e (some (t,w))=true then A else B)↔CP (Hf (e.get t) w) A B:=by
 rw [show BE e (some (t,w))=(match e.get t with | .b x=>x==w | _=>false) from rfl]
 generalize e.get t=v
 cases v<;>simp only [Hf,Bool.false_eq_true,if_false,CP]
 rename_i x
 cases x<;>cases w<;>simp
theorem Fa:(true==true)=true:=rfl
theorem Fb:(false==true)=false:=rfl
theorem Fc:(true==false)=false:=rfl
theorem Fd:(false==false)=true:=rfl
section
variable {σ:Self} {e:Tr} {s:St}
theorem AK {R:Tr→St→Prop} (d:Option Nat) (op:AOp) (l:List Op) (t:Nat) (w:Bool):WO σ (⟨d,op,some (t,w)⟩::l) e s R ↔
    CP (Hf (e.get t) w) (WS (evOp σ e s op) (KO σ d l e R)) (WO σ l (put e d undef) s R):=(PX d op l t w).trans Jt
theorem BG {Q:List (Tr×St)→Tr→St→Prop} (d:Option Nat) (op:AOp) (l:List Op) (tr:List (Tr×St)) (t:Nat) (w:Bool) :
    WD σ (⟨d,op,some (t,w)⟩::l) e s tr Q↔CP (Hf (e.get t) w) ((Nat.beq op.cls 2||BF e s op)=true∧WS (evOp σ e s op) (KD σ d l e (tr++[(e,s)]) Q)) (WD σ l (put e d undef) s (tr++[(e,s)]) Q):=(PY d op l tr t w).trans Jt
end
theorem JK {prog:Nat→Option Fun} {f:Nat} {fn:Fun} {args:List AV} {s:St} {p:List AV→St→Option (AV×St)} (hp:prog f=some fn) (hq:fn.prim=some p):(lim prog).call f args s=p args s:=by
 rw [Ez]
 unfold Fp
 simp only [hp,hq]
end Go.Proofs.Ytfpoihibfajhlaa.Am

namespace Go.Proofs.Ytfpoihibfajhlaa.Am
def KG (s:St) (res:List (Nat×Option (Bool×Nat))) (cout:List CT) (Post:AV→St→Prop):Ex→Tr→St→Prop
 | .x _,_,_=>False
 | .n,e,s1=>∃ vs s2,Cc e s1 res=some (vs,s2)∧Post (Af (wkZ cout vs)) (leave s s2 (Af vs))
 | .r,e,s1=>∃ vs s2,Cc e s1 res=some (vs,s2)∧Post (Af (wkZ cout vs)) (leave s s2 (Af vs))
def KH (s:St) (cout:List CT) (Post:AV→St→Prop) (o:Option (List AV×St)):Prop:=∃ vs s2,o=some (vs,s2)∧Post (Af (wkZ cout vs)) (leave s s2 (Af vs))
theorem KG_n (s:St) (res:List (Nat×Option (Bool×Nat))) (cout:List CT) (Post:AV→St→Prop) (e:Tr) (s1:St):KG s res cout Post .n e s1↔KH s cout Post (Cc e s1 res):=Iff.rfl
theorem KG_r (s:St) (res:List (Nat×Option (Bool×Nat))) (cout:List CT) (Post:AV→St→Prop) (e:Tr) (s1:St):KG s res cout Post .r e s1↔KH s cout Post (Cc e s1 res):=Iff.rfl
@[congr] theorem KG_congr {s:St} {res:List (Nat×Option (Bool×Nat))} {cout:List CT} {Post:AV→St→Prop} {x:Ex} {e e':Tr} {s1 s1':St} (h1:e=e') (h2:s1=s1'):KG s res cout Post x e s1=KG s res cout Post x e' s1':=by rw [h1,h2]
@[congr] theorem KH_congr {s:St} {cout:List CT} {Post:AV→St→Prop} {o o':Option (List AV×St)} (h:o=o'):KH s cout Post o=KH s cout Post o':=by rw [h]
theorem W_thw {σ:Self} {e:Tr} {s:St} {Q:Ex→Tr→St→Prop} (t:Nat):W σ (.thw t) e s Q↔WS (Hc s (e.get t)) (fun v s=>Q .n (e.set 10 t v) s):=by
 unfold W WS
 simp only [evC]
 cases Hc s (e.get t)<;>exact Iff.rfl
theorem PB (s:St) (l:List AV):pub s (.agg l)=some (.agg l,s):=rfl
theorem pubC_s (s:St) (l:List Nat):pub s (.s l)=some (.s l,s):=rfl
theorem P0 (s:St) (k:IntKind) (n:Int):pub s (.i k n)=some (.i k n,s):=rfl
theorem pubC_b (s:St) (b:Bool):pub s (.b b)=some (.b b,s):=rfl
theorem pubC_p (s:St) (a b:Nat):pub s (.p a b)=some (.p a b,s):=rfl
theorem Qi (s:St):pub s .np=some (.np,s):=rfl
theorem PC (s:St):pub s .nsl=some (.nsl,s):=rfl
theorem Nr (s:St) (f:Bool) (n:Nat) (l:List AV):pub s (.ws f n l)=some (.ws f n l,s):=rfl
theorem Ns (s:St) (n:Nat) (l:List AV):pub s (.sl n l .full)=some (.sl n l .full,s):=rfl
theorem Nt (s:St) (n:Nat) (l:List AV):pub s (.sl n l .shut)=some (.sl n l .shut,s):=rfl
theorem Qj (s:St) (f:Nat) (l:List AV):pub s (.fn f l)=some (.fn f l,s):=rfl
structure Wf (s:St):Prop where
 b:s.boxes.length=s.nb
 t:s.toks.length=s.nt
section
variable {s s0:St}
theorem Wf.enter (h:Wf s):Wf s.enter:=⟨h.b,h.t⟩
theorem Wf.lo (h:Wf s) (n:Nat):Wf { s with lo:=n }:=⟨h.b,h.t⟩
theorem Wf.new (h:Wf s) (B:Box):Wf (s.new B):=⟨by simp [St.new,h.b],h.t⟩
theorem Wf.setBox (h:Wf s) (id:Nat) (B:Box):Wf (s.setBox id B):=⟨by simp [St.setBox,h.b],h.t⟩
theorem Wf.setTok (h:Wf s) (k:Nat) (t:Tok):Wf (s.setTok k t):=⟨h.b,by simp [St.setTok,h.t]⟩
theorem Wf.newTok (h:Wf s) (n:Nat) (T:Option Nat):Wf (s.newTok n T):=⟨h.b,by simp [St.newTok,h.t]⟩
theorem Wf.esc (h:Wf s) (id:Nat) (v:AV):Wf (Am.esc s id v):=by unfold Am.esc; split<;>exact ⟨h.b,h.t⟩
theorem D3 {B:Box} {id:Nat} (h:id < s.nb):(s.new B).box? id=s.box? id:=by rw [new_box?,if_neg (by omega)]
def Qk (t0:Nat) (s:St) (T:Nat) (a:AV) (xs:List AV):Prop :=
 (a=.nsl∧xs=[])∨∃ k v t,a=.sl 1 xs (.tok k v)∧t0≤k∧k < s.nt∧s.tok? k=some t∧t.ver=v∧t.front=xs.length∧t.ty=some T∧1≤xs.length
def Av:AV→Option Nat
 | .sl _ _ (.tok k _)=>some k
 | _=>none
theorem Qk.mono {t0 T:Nat} {a:AV} {xs:List AV} {s s':St} (h:Qk t0 s T a xs) (hn:s.nt≤s'.nt) (ht:∀ k,Av a=some k→s'.tok? k=s.tok? k):Qk t0 s' T a xs:=by
 rcases h with h | ⟨k,v,t,rfl,h1,h2,h3,h4,h5,h6⟩
 · exact .inl h
 · exact .inr ⟨k,v,t,rfl,h1,by omega,by rw [ht k rfl]; exact h3,h4,h5,h6⟩
structure Grew (t0:Nat) (s s':St) (a a':AV):Prop where
 nb:s'.nb=s.nb
 boxes:s'.boxes=s.boxes
 lo:s'.lo=s.lo
 nt:s.nt≤s'.nt
 over:∀ s0:St,s0.nt≤t0→s0.nt≤s.nt→Over s0 s→Over s0 s'
 wf:Wf s→Wf s'
 toks:∀ k,k < s.nt→Av a≠some k→s'.tok? k=s.tok? k∧Av a'≠some k
theorem Ed {T off id:Nat} {l:List AV} {v:AV} (h:s.box? id=some (.cells T l)) (hc:l[off]? = some v):ldA s false 1 (.p id off)=some v:=by
 simp only [ldA,St.cells?,h,cut]
 have:(l.drop off).take 1=[v]:=by
  rw [List.take_one,List.head?_drop,hc]; rfl
 simp [this,scal]
theorem P2 {T off id:Nat} {l:List AV} {v:AV} (h:s.box? id=some (.cells T l)) (hv:v.cells=[v]) (h1:ones [v]=true) (hoff:off < l.length):stA s 1 (.p id off) v=some (esc (s.setBox id (.cells T (l.set off v))) id v):=by
 simp only [stA,h,hv]
 have:over l off [v]=some (l.set off v):=by
  unfold over
  rw [if_pos (by simp; omega),List.set_eq_take_append_cons_drop,if_pos hoff]
  rfl
 simp [this,h1]
structure Eff (t0 id:Nat) (s s':St):Prop where
 nb:s'.nb=s.nb
 nt:s.nt≤s'.nt
 box:∀ j,j≠id→s'.box? j=s.box? j
 wf:Wf s'
 over:∀ s0:St,s0.nt≤t0→s0.nb≤id→Over s0 s→Over s0 s'
 lo:(s'.lo=s.lo∧s'.nt=s.nt)∨s'.lo≤id
theorem Nu {s1:St} {v:AV} (hn:s1.nb=s.nb) (hlo:s1.lo < s.nb):leave s s1 v={ s1 with lo:=min s.lo s1.lo }:=by
 unfold Am.leave
 have:Nat.ble s.nb s1.lo=false:=by
  cases h:Nat.ble s.nb s1.lo with
  | false=>rfl
  | true=>rw [Nat.ble_eq] at h; omega
 rw [this]; rfl
theorem Mw {s1:St} {v:AV} (hn:s1.nb=s.nb) (ht:s1.nt=s.nt) (hlo:s.nb≤s1.lo) (hv:v.refs=false):leave s s1 v={ s1 with lo:=s.lo }:=by
 unfold Am.leave
 have:Nat.ble s.nb s1.lo=true:=by rw [Nat.ble_eq]; exact hlo
 rw [this,hv]
 obtain ⟨a,b,c,d,e⟩:=s1
 simp only at hn ht
 subst hn; subst ht
 simp
theorem Over.setLo {s0 s1:St} (h:Over s0 s1) {n:Nat} (hn:s0.nb≤n):Over s0 { s1 with lo:=n }:=⟨h.nb,h.boxes,h.nt,h.toks,hn⟩
theorem Eff.refl {t0 id:Nat} (hw:Wf s):Eff t0 id s s:=⟨rfl,Nat.le_refl _,fun _ _=>rfl,hw,fun _ _ _ h=>h,.inl ⟨rfl,rfl⟩⟩
theorem Eff.trans {t0 id:Nat} {s1 s2:St} (h:Eff t0 id s s1) (k:Eff t0 id s1 s2):Eff t0 id s s2 where
 nb:=k.nb.trans h.nb
 nt:=Nat.le_trans h.nt k.nt
 box:=fun j hj=>(k.box j hj).trans (h.box j hj)
 wf:=k.wf
 over:=fun s0 h0 h1 hov=>k.over s0 h0 h1 (h.over s0 h0 h1 hov)
 lo := by
  rcases k.lo with ⟨k1,k2⟩ | k1
  · rcases h.lo with ⟨h1,h2⟩ | h1
    · exact .inl ⟨k1.trans h1,k2.trans h2⟩
    · exact .inr (by omega)
  · exact .inr k1
theorem Over.toEnter {s0:St} (h:Over s0 s):Over s0 s.enter:=⟨h.nb,h.boxes,h.nt,h.toks,h.nb⟩
theorem Eff.leave {t0 id:Nat} {s1:St} (hid:id < s.nb) (h:Eff t0 id s.enter s1):∃ n,Am.leave s s1 (.tup [])={ s1 with lo:=n }∧Eff t0 id s { s1 with lo:=n }:=by
 have hnb:s1.nb=s.nb:=h.nb
 rcases h.lo with ⟨h1,h2⟩ | h1
 · have h1:s1.lo=s.nb:=h1
   have h2:s1.nt=s.nt:=h2
   exact ⟨s.lo,Mw hnb h2 (by omega) rfl,hnb,Nat.le_of_eq h2.symm,h.box,h.wf.lo _,fun s0 k0 k1 hov=>(h.over s0 k0 k1 hov.toEnter).setLo hov.lo,.inl ⟨rfl,h2⟩⟩
 · refine ⟨min s.lo s1.lo,Nu hnb (by omega),hnb,h.nt,h.box,h.wf.lo _,fun s0 k0 k1 hov=>(h.over s0 k0 k1 hov.toEnter).setLo ?_,.inr (by show min s.lo s1.lo≤id; omega)⟩
   have:=(h.over s0 k0 k1 hov.toEnter).lo
   have:=hov.lo
   omega
def RowE (es t0:Nat) (s:St) (T:Nat) (a:AV) (xs:List AV):Prop :=
 (a=.nsl∧xs=[])∨∃ k v t,a=.sl es xs (.tok k v)∧t0≤k∧k < s.nt∧s.tok? k=some t∧t.ver=v∧t.front=xs.length∧t.ty=some T∧1≤xs.length
theorem RowE.tok_lt {es t0 T:Nat} {a:AV} {xs:List AV} (h:RowE es t0 s T a xs) {k:Nat} (hk:Av a=some k):k < s.nt:=by
 rcases h with ⟨rfl,_⟩ | ⟨k',v,t,rfl,_,h2,_⟩
 · simp [Av] at hk
 · simp only [Av,Option.some.injEq] at hk; omega
theorem RowE.mono {es t0 T:Nat} {a:AV} {xs:List AV} {s s':St} (h:RowE es t0 s T a xs) (hn:s.nt≤s'.nt) (ht:∀ k,Av a=some k→s'.tok? k=s.tok? k):RowE es t0 s' T a xs:=by
 rcases h with h | ⟨k,v,t,rfl,h1,h2,h3,h4,h5,h6⟩
 · exact .inl h
 · exact .inr ⟨k,v,t,rfl,h1,by omega,by rw [ht k rfl]; exact h3,h4,h5,h6⟩
structure Pubd (t0:Nat) (s s':St):Prop where
 nb:s'.nb=s.nb
 nt:s'.nt=s.nt
 boxes:s'.boxes=s.boxes
 over:∀ s0:St,s0.nt≤t0→Over s0 s→Over s0 s'
 wf:Wf s'
 row:∀ {es T:Nat} {a:AV} {xs:List AV},RowE es t0 s T a xs→RowE es t0 s' T a xs
theorem Pubd.box {t0:Nat} {s':St} (h:Pubd t0 s s') (id:Nat):s'.box? id=s.box? id:=by simp [St.box?,h.nb,h.boxes]
theorem RowE.pubd {es t0 T:Nat} {a:AV} {xs:List AV} (h:RowE es t0 s T a xs) (hw:Wf s) :
    ∃ a' s',pub s a=some (a',s')∧((a'=.nsl∧xs=[])∨a'=.sl es xs .shut)∧Pubd t0 s s':=by
 rcases h with ⟨rfl,rfl⟩ | ⟨k,v,t,rfl,k1,k2,k3,k4,k5,k6,k7⟩
 · exact ⟨.nsl,s,rfl,.inl ⟨rfl,rfl⟩,rfl,rfl,rfl,fun _ _ h=>h,hw,fun h=>h⟩
 · refine ⟨.sl es xs .shut,s.setTok k { t with pub:=max t.pub xs.length },?_,.inr rfl,rfl,rfl,rfl,fun s0 h0 h=>h.setTok (by omega) k2 _,hw.setTok _ _,fun {es' T' a ys} hr=>?_⟩
   · simp only [pub,k3,k4,if_true]
   · rcases hr with hr | ⟨k',v',t',rfl,h1,h2,h3,h4,h5,h6,h7⟩
     · exact .inl hr
     · by_cases hk:k'=k
       · subst hk
         rw [k3] at h3; cases h3
         exact .inr ⟨k',v',{ t with pub:=max t.pub xs.length },rfl,h1,h2,by rw [setTok_tok? hw.t h2,if_pos rfl],h4,h5,h6,h7⟩
       · exact .inr ⟨k',v',t',rfl,h1,h2,by rw [setTok_tok? hw.t k2,if_neg hk]; exact h3,h4,h5,h6,h7⟩
end
end Go.Proofs.Ytfpoihibfajhlaa.Am

namespace Go.Proofs.Ytfpoihibfajhlaa.Am
structure Fr (O:Nat→Prop) (h tB:Nat) (q q':St):Prop where
 nb:h≤q'.nb
 box:∀ j,j < h→¬ O j→q'.box? j=q.box? j
 lo:q.lo < h→q'.lo≤q.lo
 tok:(q.nt≤q'.nt∧∀ k,k < q.nt→q'.tok? k=q.tok? k)∨(h≤q.lo∧tB≤q'.nt∧∀ k,k < q'.nt→q'.tok? k=q.tok? k)
structure Fr0 (O:Nat→Prop) (h:Nat) (q q':St):Prop where
 nb:h≤q'.nb
 box:∀ j,j < h→¬ O j→q'.box? j=q.box? j
 tok:q.nt≤q'.nt∧∀ k,k < q.nt→q'.tok? k=q.tok? k
section
variable {O O1:Nat→Prop} {h h1 tB:Nat} {q q' s s0:St}
theorem Fr0.refl (hq:h≤q.nb):Fr0 O h q q:=⟨hq,fun _ _ _=>rfl,Nat.le_refl _,fun _ _=>rfl⟩
theorem Fr0.trans {q2:St} (f:Fr0 O h q q') (g:Fr0 O h q' q2):Fr0 O h q q2 :=
 ⟨g.nb,fun j hj hn=>(g.box j hj hn).trans (f.box j hj hn),Nat.le_trans f.tok.1 g.tok.1,fun k hk=>(g.tok.2 k (by have:=f.tok.1; omega)).trans (f.tok.2 k hk)⟩
theorem Fr.new (hq:h≤q.nb) (B:Box):Fr O h tB q (q.new B) :=
 ⟨by simp [St.new]; omega,fun j hj _=>D3 (by omega),fun _=>Nat.le_refl _,.inl ⟨Nat.le_refl _,fun _ _=>rfl⟩⟩
theorem Fr.setBox (hw:Wf q) (hq:h≤q.nb) {id:Nat} (hid:h≤id∨O id) (h2:id < q.nb) (B:Box):Fr O h tB q (q.setBox id B) :=
 ⟨hq,fun j hj hn=>by
  rw [setBox_box? hw.b h2,if_neg]
  rintro rfl
  rcases hid with hid | hid
  · omega
  · exact hn hid,fun _=>Nat.le_refl _,.inl ⟨Nat.le_refl _,fun _ _=>rfl⟩⟩
theorem Fr0.enter (hq:h≤q.nb):Fr0 O h q q.enter:=⟨hq,fun _ _ _=>rfl,Nat.le_refl _,fun _ _=>rfl⟩
theorem Fr0.lo (hq:h≤q.nb) (n:Nat):Fr0 O h q { q with lo:=n }:=⟨hq,fun _ _ _=>rfl,Nat.le_refl _,fun _ _=>rfl⟩
theorem MH {q:St} (hw:Wf q) {n:Nat} (hn:n≤q.nb) {x:List (Option Tok)} {a b:Nat} {j:Nat} (hj:j < n):({ nb:=n,boxes:=q.boxes.drop (q.nb - n),nt:=a,toks:=x,lo:=b }:St).box? j=q.box? j:=by
 unfold St.box?
 have h1:Nat.blt j n=true:=by rw [Nat.blt_eq]; exact hj
 have h2:Nat.blt j q.nb=true:=by rw [Nat.blt_eq]; omega
 simp only [h1,h2,cond_true,List.getElem?_drop]
 congr 1
 omega
theorem MI {q:St} (hw:Wf q) {n:Nat} (hn:n≤q.nt) {x:List Box} {a b:Nat} {j:Nat} (hj:j < n):({ nb:=a,boxes:=x,nt:=n,toks:=q.toks.drop (q.nt - n),lo:=b }:St).tok? j=q.tok? j:=by
 unfold St.tok?
 have h1:Nat.blt j n=true:=by rw [Nat.blt_eq]; exact hj
 have h2:Nat.blt j q.nt=true:=by rw [Nat.blt_eq]; omega
 simp only [h1,h2,cond_true,List.getElem?_drop]
 congr 2
 omega
end
def subC:C→List Nat→C
 | .seq a _,0::p=>subC a p
 | .seq _ b,1::p=>subC b p
 | .cond _ a _,0::p=>subC a p
 | .cond _ _ b,1::p=>subC b p
 | .blk _ b,0::p=>subC b p
 | .loop b,0::p=>subC b p
 | .rf _ _ a _,0::p=>subC a p
 | .rf _ _ _ b,1::p=>subC b p
 | c,_=>c
structure Body (prog:Nat→Option Fun) (O:Nat→Prop) (s0:St) (h tB:Nat) (y:AV) (L:List AV) (I:Nat→St→Prop) (R:St→Prop):Prop where
 stab:∀ j q q',I j q→Fr O h tB q q'→I j q'
 stab0:∀ q q',I 0 q→Fr0 O h q q'→I 0 q'
 stabR:∀ q q',R q→Fr O h tB q q'→R q'
 step:∀ (j:Nat) (hj:j < L.length) q,I j q→Over s0 q→Wf q→h≤q.nb→tB≤q.nt→∃ b q',G8 (lim prog) y [L[j]] q=some (.b b,q')∧(b=true→I (j+1) q')∧(b=false→R q') ∧
  Over s0 q'∧Wf q'∧q.nb≤q'.nb∧q.nt≤q'.nt∧∀ i,(O i∨h≤i)→i < q.nb→q'.box? i=q.box? i
section
variable {prog:Nat→Option Fun}
end
def RB (es h tB t0 T Tb id:Nat) (xs:List AV) (q:St):Prop:=∃ a,q.box? id=some (.cells Tb [a])∧RowE es t0 q T a xs∧∀ k,Av a=some k→k < tB∨q.lo < h
theorem RB.fr {O:Nat→Prop} {es h tB t0 T Tb id:Nat} {xs:List AV} {q q':St} (r:RB es h tB t0 T Tb id xs q) (hid:id < h) (hO:¬ O id) (f:Fr O h tB q q'):RB es h tB t0 T Tb id xs q':=by
 obtain ⟨a,h1,h2,h3⟩:=r
 refine ⟨a,by rw [f.box id hid hO]; exact h1,?_,fun k hk=>(h3 k hk).imp_right fun hl=>by have:=f.lo hl; omega⟩
 rcases h2 with h2 | ⟨k,v,t,rfl,k1,k2,k3,k4⟩
 · exact .inl h2
 · have hk3:=h3 k rfl
   refine .inr ⟨k,v,t,rfl,k1,?_,?_,k4⟩
   · rcases f.tok with ⟨h4,_⟩ | ⟨h4,h5,_⟩
     · omega
     · rcases hk3 with hk3 | hk3<;>omega
   · rcases f.tok with ⟨h4,h5⟩ | ⟨h4,h5,h6⟩
     · rw [h5 k k2]; exact k3
     · rw [h6 k (by rcases hk3 with hk3 | hk3<;>omega)]; exact k3
theorem RB.fr0 {O:Nat→Prop} {es h tB t0 T Tb id:Nat} {xs:List AV} {q q':St} (r:RB es h tB t0 T Tb id xs q) (ht:∀ a k,q.box? id=some (.cells Tb [a])→Av a=some k→k < tB) (hid:id < h) (hO:¬ O id) (f:Fr0 O h q q'):RB es h tB t0 T Tb id xs q':=by
 obtain ⟨a,h1,h2,h3⟩:=r
 refine ⟨a,by rw [f.box id hid hO]; exact h1,?_,fun k hk=>.inl (ht a k h1 hk)⟩
 exact h2.mono f.tok.1 fun k hk=>f.tok.2 k (h2.tok_lt hk)
def RowP (es t0:Nat) (s:St) (T:Nat) (a:AV) (xs:List AV):Prop :=
 (a=.nsl∧xs=[])∨∃ k v t,a=.sl es xs (.tok k v)∧t0≤k∧k < s.nt∧s.tok? k=some t∧t.ver=v∧t.front=xs.length∧t.ty=some T∧t.pub=0
section
variable {es t0 T:Nat} {a y:AV} {xs ys:List AV} {s s':St}
theorem RowP.tok_lt (h:RowP es t0 s T a xs) {k:Nat} (hk:Av a=some k):k < s.nt:=by
 rcases h with ⟨rfl,_⟩ | ⟨k',v,t,rfl,_,h2,_⟩
 · simp [Av] at hk
 · simp only [Av,Option.some.injEq] at hk; omega
theorem RowP.mono (h:RowP es t0 s T a xs) (hn:s.nt≤s'.nt) (ht:∀ k,Av a=some k→s'.tok? k=s.tok? k):RowP es t0 s' T a xs:=by
 rcases h with h | ⟨k,v,t,rfl,h1,h2,h3,h4⟩
 · exact .inl h
 · exact .inr ⟨k,v,t,rfl,h1,by omega,by rw [ht k rfl]; exact h3,h4⟩
theorem RowP.cells (h:RowP es t0 s T a xs):a.cells=[a]∧ones [a]=true:=by
 rcases h with ⟨rfl,_⟩ | ⟨k,v,t,rfl,_⟩<;>exact ⟨rfl,rfl⟩
end
def RP (es h tB t0 T Tb id:Nat) (xs:List AV) (q:St):Prop:=∃ a,q.box? id=some (.cells Tb [a])∧RowP es t0 q T a xs∧∀ k,Av a=some k→k < tB∨q.lo < h
theorem RP.fr {O:Nat→Prop} {es h tB t0 T Tb id:Nat} {xs:List AV} {q q':St} (r:RP es h tB t0 T Tb id xs q) (hid:id < h) (hO:¬ O id) (f:Fr O h tB q q'):RP es h tB t0 T Tb id xs q':=by
 obtain ⟨a,h1,h2,h3⟩:=r
 refine ⟨a,by rw [f.box id hid hO]; exact h1,?_,fun k hk=>(h3 k hk).imp_right fun hl=>by have:=f.lo hl; omega⟩
 rcases h2 with h2 | ⟨k,v,t,rfl,k1,k2,k3,k4⟩
 · exact .inl h2
 · have hk3:=h3 k rfl
   refine .inr ⟨k,v,t,rfl,k1,?_,?_,k4⟩
   · rcases f.tok with ⟨h4,_⟩ | ⟨h4,h5,_⟩
     · omega
     · rcases hk3 with hk3 | hk3<;>omega
   · rcases f.tok with ⟨h4,h5⟩ | ⟨h4,h5,h6⟩
     · rw [h5 k k2]; exact k3
     · rw [h6 k (by rcases hk3 with hk3 | hk3<;>omega)]; exact k3
theorem RP.fr0 {O:Nat→Prop} {es h tB t0 T Tb id:Nat} {xs:List AV} {q q':St} (r:RP es h tB t0 T Tb id xs q) (ht:∀ a k,q.box? id=some (.cells Tb [a])→Av a=some k→k < tB) (hid:id < h) (hO:¬ O id) (f:Fr0 O h q q'):RP es h tB t0 T Tb id xs q':=by
 obtain ⟨a,h1,h2,h3⟩:=r
 refine ⟨a,by rw [f.box id hid hO]; exact h1,?_,fun k hk=>.inl (ht a k h1 hk)⟩
 exact h2.mono f.tok.1 fun k hk=>f.tok.2 k (h2.tok_lt hk)
theorem RP.store {es h tB t0 T Tb id:Nat} {a a':AV} {xs:List AV} {q q2:St} (hb:q.box? id=some (.cells Tb [a])) (hg:Grew t0 q q2 a a') (hr:RowP es t0 q2 T a' xs) (hc:a'.cells=[a']∧ones [a']=true) (href:a'.refs=true) (hw:Wf q) (hid:id < h) (hq:id < q.nb) :
    ∃ q3,stA q2 1 (.p id 0) a'=some q3∧RP es h tB t0 T Tb id xs q3∧q3.nb=q.nb∧q.nt≤q3.nt∧Wf q3∧(∀ i,i≠id→q3.box? i=q.box? i)∧∀ s0:St,s0.nb≤id→s0.nt≤t0→s0.nt≤q.nt→Over s0 q→Over s0 q3:=by
 have hb2:q2.box? id=some (.cells Tb [a]):=by rw [← hb]; simp [St.box?,hg.nb,hg.boxes]
 have w2:=hg.wf hw
 have e:=P2 (s:=q2) (v:=a') (off:=0) hb2 hc.1 hc.2 (by simp)
 obtain ⟨n,e1,e2,e3⟩:=IE (q2.setBox id (.cells Tb ([a].set 0 a'))) id a'
 have hset:([a].set 0 a')=[a']:=rfl
 rw [hset] at e e1 e2
 have hbx:∀ i,({ q2.setBox id (.cells Tb [a']) with lo:=n }:St).box? i=if i=id then some (.cells Tb [a']) else q2.box? i:=fun i=>setBox_box? w2.b (by rw [hg.nb]; exact hq) i
 rw [e1] at e
 refine ⟨_,e,⟨a',by rw [hbx,if_pos rfl],?_,fun k _=>.inr (by have:=e3 href; show n < h; omega)⟩,hg.nb,hg.nt,(w2.setBox _ _).lo n,fun i hi=>by rw [hbx,if_neg hi]; simp [St.box?,hg.nb,hg.boxes],fun s0 h1 h2 h3 h4=>Over.setLo (Over.setBox (hg.over s0 h2 h3 h4) h1 (by rw [hg.nb]; exact hq) _) ?_⟩
 · exact hr.mono (Nat.le_refl _) fun k _=>rfl
 · have hlo:=h4.lo
   have:esc (q2.setBox id (.cells Tb [a'])) id a'=({ q2.setBox id (.cells Tb [a']) with lo:=n }:St):=e1
   have h5:n=(esc (q2.setBox id (.cells Tb [a'])) id a').lo:=by rw [this]
   rw [h5]
   unfold Am.esc
   split<;>first
    | (show s0.nb≤min q2.lo id; rw [hg.lo]; omega)
    | (show s0.nb≤q2.lo; rw [hg.lo]; omega)
end Go.Proofs.Ytfpoihibfajhlaa.Am

namespace Go.Proofs.Ytfpoihibfajhlaa.Am
variable {P:Program} {gt:Nat→Option (List AV)} {g:G} {s:St} {w:World}
def txtL:List AV→Option (List (List Nat))
 | []=>some []
 | .s l::r=>match txtL r with
   | some L=>some (l::L)
   | none=>none
 | _=>none
theorem Jm:∀ L:List (List Nat),txtL (L.map .s)=some L
 | []=>rfl
 | l::L=>by simp only [List.map_cons,txtL,Jm L]
theorem Nk:∀ {xs:List AV} {L:List (List Nat)} {vs:List Value},txtL xs=some L→VL g s w xs vs→xs.length=L.length∧flat vs=vs∧vs=L.map (fun l=>.string (AL l))∧∀ l∈L,∀ n∈l,n < 256
 | [],L,vs,h,hv=>by
   simp only [txtL] at h; cases h
   simp only [VL] at hv; subst hv
   exact ⟨rfl,rfl,rfl,by simp⟩
 | a :: r,L,vs,h,hv=>by
   cases a<;>simp only [txtL] at h<;>try (cases h; done)
   rename_i l
   cases hr:txtL r with
   | none=>rw [hr] at h; cases h
   | some L' =>
     rw [hr] at h; cases h
     simp only [VL,V] at hv
     obtain ⟨v,vs',rfl,⟨rfl,hl⟩,hv'⟩:=hv
     obtain ⟨h1,h2,h3,h4⟩:=Nk hr hv'
     refine ⟨by simp [h1],?_,by simp [← h3],?_⟩
     · simp only [flat,List.flatMap_cons] at h2 ⊢
       rw [h2]; simp [Value.cells]
     · intro l' hl'
       rcases List.mem_cons.1 hl' with rfl | hl'
       · exact hl
       · exact h4 l' hl'
end Go.Proofs.Ytfpoihibfajhlaa.Am

namespace Go.Proofs.Ytfpoihibfajhlaa.Am
open Go.Sort Go.Proofs
variable {P:Program} {gt:Nat→Option (List AV)} {CR:Nat→Code→C→Prop} {g:G} {s:St} {w:World}
def u8s (l:List Nat):List UInt8:=l.map UInt8.ofNat
def n8s (l:List UInt8):List Nat:=l.map (·.toNat)
theorem N1 (l:List Nat):encStr (u8s l)=.string (AL l):=rfl
theorem n8_lt {l:List UInt8}:∀ n∈n8s l,n < 256:=by
 intro n hn
 simp only [n8s,List.mem_map] at hn
 obtain ⟨x,_,rfl⟩:=hn
 exact x.toNat_lt
theorem u8_n8 (l:List UInt8):u8s (n8s l)=l:=by simp [u8s,n8s,Function.comp_def]
theorem N2:∀ {L:List (List Nat)},(∀ x∈L,∀ n∈x,n < 256)→∀ (g:G) (s:St) (w:World),VL g s w (L.map .s) (L.map fun l=>.string (AL l))
 | [],_,g,s,w=>by simp [VL]
 | x::L,h,g,s,w=>by
   simp only [List.map_cons,VL,V]
   exact ⟨_,_,rfl,⟨rfl,h x (by simp)⟩,N2 (fun y hy=>h y (by simp [hy])) g s w⟩
theorem Jp {d:Array (List UInt8)} {arr:Array Value} {vs rest:List Value} (h:arr.toList=vs++rest) (hl:vs.length=d.size):(putCells encStr 0 d arr).toList=d.toList.map encStr++rest:=by
 apply List.ext_getElem?
 intro k
 simp only [putCells,Array.toList_mapIdx,List.getElem?_mapIdx,h]
 by_cases hk:k < d.size
 · rw [List.getElem?_append_left (by omega),List.getElem?_append_left (by simpa using hk),List.getElem?_eq_getElem (by omega),Option.map_some,if_pos ⟨Nat.zero_le _,by omega⟩]
   simp [hk]
 · rw [List.getElem?_append_right (by omega),List.getElem?_append_right (by simp; omega),hl]
   simp only [List.length_map,Array.length_toList]
   cases rest[k - d.size]? with
   | none=>rfl
   | some v=>rw [Option.map_some,if_neg (by omega)]
theorem Kr (hI:Inv CR g s w) {id T rm n:Nat} {L L':List (List Nat)} (hb:s.box? id=some (.row T (L.map .s) false rm)) (hlen:L'.length=L.length) (hlt:∀ x∈L',∀ n∈x,n < 256) :
    Inv CR g (s.setBox id (.row T (L'.map .s) false rm)) (putRow encStr (Sort.ahead w n) (g.bx id) 0 (L'.map u8s).toArray)∧Le g s w g (s.setBox id (.row T (L'.map .s) false rm)) (putRow encStr (Sort.ahead w n) (g.bx id) 0 (L'.map u8s).toArray)∧Esc s (s.setBox id (.row T (L'.map .s) false rm)):=by
 obtain ⟨arr,fr,h1,hfr,vs,rest,h2,h3,h4⟩:=hI.box id _ hb
 have hvl:vs.length=L.length:=by have:=h3.length; simpa using this
 have hh:∀ b,b≠g.bx id→(putRow encStr (Sort.ahead w n) (g.bx id) 0 (L'.map u8s).toArray).heap[b]? = w.heap[b]? := fun b hb=>by
  simp only [putRow,mapBlock,Sort.ahead,Array.getElem?_modify,if_neg (Ne.symm hb)]
 have hat:(putRow encStr (Sort.ahead w n) (g.bx id) 0 (L'.map u8s).toArray).heap[g.bx id]? = some (.cells (putCells encStr 0 (L'.map u8s).toArray arr) T fr):=by
  simp only [putRow,mapBlock,Sort.ahead,Array.getElem?_modify,if_true,h1,Option.map_some,onCells]
 have hsz:(putRow encStr (Sort.ahead w n) (g.bx id) 0 (L'.map u8s).toArray).heap.size=w.heap.size:=by simp [putRow,mapBlock,Sort.ahead]
 have hnd:w.heap[g.bx id]? ≠ some (.deferred (some [])):=by rw [h1]; intro hh; cases hh
 have hio:(putRow encStr (Sort.ahead w n) (g.bx id) 0 (L'.map u8s).toArray).os=w.os∧(putRow encStr (Sort.ahead w n) (g.bx id) 0 (L'.map u8s).toArray).output=w.output:=⟨rfl,rfl⟩
 have hpl:=Jp (d:=(L'.map u8s).toArray) h2 (by simp; omega)
 have hcs:(L'.map u8s).toArray.toList.map encStr=L'.map fun l=>.string (AL l):=by
  simp [N1,Function.comp_def]
 rw [hcs] at hpl
 have hB:I0 CR g (s.setBox id (.row T (L'.map .s) false rm)) (putRow encStr (Sort.ahead w n) (g.bx id) 0 (L'.map u8s).toArray) (g.bx id) (.row T (L'.map .s) false rm) :=
  ⟨_,fr,hat,hfr,_,rest,hpl,N2 hlt _ _ _,by simpa [putCells] using h4⟩
 have harr:Cx w (putRow encStr (Sort.ahead w n) (g.bx id) 0 (L'.map u8s).toArray) (g.bx id):=fun a T' f hb'=>by
  rw [h1] at hb'; cases hb'; exact ⟨_,_,hat,by simp [putCells]⟩
 refine ⟨hI.setBox hb rfl _ hsz hh hnd harr hB hio,Le.setBox hI hb rfl _ hsz hh hnd harr hio,Nat.le_refl _,fun nb k1 k2 i B' hi hB' a ha=>?_⟩
 rw [setBox_box? hI.lenB (box?_lt hb)] at hB'
 by_cases hid:i=id
 · rw [if_pos hid] at hB'
   cases hB'
   refine .inl ?_
   simp only [vals,List.mem_map] at ha
   obtain ⟨x,_,rfl⟩:=ha
   rfl
 · rw [if_neg hid] at hB'
   exact .inr ⟨B',hB',ha⟩
theorem Jq:∀ {l:List AV} {L:List (List Nat)},txtL l=some L→l=L.map .s
 | [],L,h=>by simp only [txtL] at h; cases h; rfl
 | a::l,L,h=>by
   cases a<;>simp only [txtL] at h<;>try (cases h; done)
   split at h<;>try (cases h; done)
   rename_i r hr
   cases h
   rw [Jq hr]; rfl
def ED (L:List (List Nat)):List (List Nat):=((L.map u8s).mergeSort fun x y=>decide (x≤y)).map n8s
def E6:List AV→St→Option (AV×St)
 | [.bl id 1 0 n _],s=>match s.box? id with
   | some (.row T l false rm)=>match txtL l with
     | some L=>if n=L.length∧n < 4611686018427387904 then some (.tup [],s.setBox id (.row T ((ED L).map .s) false rm)) else none
     | none=>none
   | _=>none
 | _,_=>none
theorem MO (hI:Inv CR g s w) {id T rm:Nat} {L:List (List Nat)} (hb:s.box? id=some (.row T (L.map .s) false rm)):Holds encStr w (g.bx id) 0 (L.map u8s).toArray∧g.bx id < w.heap.size∧∀ x∈L,∀ n∈x,n < 256:=by
 obtain ⟨arr,fr,h1,hfr,vs,rest,h2,h3,h4⟩:=hI.box id _ hb
 obtain ⟨h5,_,h6,h7⟩:=Nk (Jm L) h3
 refine ⟨fun j hj=>?_,(hI.lt id (box?_lt hb)).2,h7⟩
 have hj':j < L.length:=by simpa using hj
 have hf:=hfr rfl
 refine ⟨?_,?_⟩
 · have:arr[j]? = some (.string (AL L[j])):=by
    rw [← Array.getElem?_toList,h2,h6,List.getElem?_append_left (by simpa using hj')]
    simp [hj']
   simp only [World.cell?,h1,Nat.zero_add]
   simp only [Option.isSome_none,Bool.false_eq_true,if_false,this]
   rw [getElem!_pos _ j hj]
   simp [N1]
 · obtain ⟨f1,f2⟩:=fr
   simp only at hf
   subst hf
   simp [World.frozen?,h1]
theorem IX (L:List (List Nat)):(ED L).map u8s=(L.map u8s).mergeSort fun x y=>decide (x≤y):=by
 simp [ED,u8_n8,Function.comp_def]
theorem IY (L:List (List Nat)):(ED L).length=L.length:=by simp [ED]
theorem MP {K:List (List UInt8)}:∀ x∈K.map n8s,∀ n∈x,n < 256:=by
 intro x hx
 obtain ⟨y,_,rfl⟩:=List.mem_map.1 hx
 exact n8_lt
theorem Lc {f:Nat} (hb:∃ F b,P.funcs[f]? = some F∧F.body=some b)
    (h:∀ (blk off cap:Nat) (ss:List (List UInt8)) (w:World),Holds encStr w blk off ss.toArray→blk < w.heap.size→ss.length < 4611686018427387904 →
     Calls P f #[.slice (some ⟨blk,off,none⟩) ss.length cap] w fun e w'=>e=.returned (.tuple #[])∧∃ n os,w'=grow (putRow encStr (Sort.ahead w n) blk off (ss.mergeSort fun x y=>decide (x≤y)).toArray) os):JF P gt f E6:=by
 refine ⟨hb,fun args s r s' hp g w vs hI hG hv=>?_⟩
 unfold E6 at hp
 split at hp<;>try (cases hp; done)
 rename_i id n x
 split at hp<;>try (cases hp; done)
 rename_i T l rm hbx
 split at hp<;>try (cases hp; done)
 rename_i L hL
 split at hp<;>try (cases hp; done)
 rename_i hn
 cases hp
 obtain rfl:=Jq hL
 simp only [VL,V] at hv
 obtain ⟨v,_,rfl,⟨o,cap,rfl,hid,⟨_,hcap⟩,_,_,ho⟩,rfl⟩:=hv
 obtain rfl:o=0:=by omega
 obtain ⟨hH,hblk,_⟩:=MO hI hbx
 have hcall:=h (g.bx id) 0 cap (L.map u8s) w hH hblk (by rw [List.length_map]; omega)
 rw [List.length_map,← hn.1] at hcall
 refine hcall.mono ?_
 rintro e w' ⟨rfl,m,os,rfl⟩
 obtain ⟨k1,k2,k3⟩:=Kr (n:=m) hI hbx (IY L) MP
 rw [IX] at k1 k2
 have hgr:Grown (putRow encStr (Sort.ahead w m) (g.bx id) 0 ((L.map u8s).mergeSort fun x y=>decide (x≤y)).toArray) (grow (putRow encStr (Sort.ahead w m) (g.bx id) 0 ((L.map u8s).mergeSort fun x y=>decide (x≤y)).toArray) os) :=
  ⟨rfl,rfl,by simp [grow],fun k hk=>by simp only [grow]; rw [Array.getElem?_append_left hk]⟩
 refine ⟨_,rfl,g,k1.grown hgr,k2.trans (Le.grown k1 hgr),?_,k3⟩
 simp only [V,VL]
 exact ⟨[],rfl,rfl⟩
def ER (L:List (List Nat)):List (List Nat):=(Lib.compact (L.map u8s)).map n8s
def Cn:List AV→St→Option (AV×St)
 | [.bl id 1 0 n x],s=>match s.box? id with
   | some (.row T l false rm)=>match txtL l with
     | some L=>if n=L.length∧n≤9223372036854775807∧(ER L).length≤n then some (.bl id 1 0 (ER L).length x,s.setBox id (.row T ((ER L++List.replicate (n - (ER L).length) []).map .s) false rm)) else none
     | none=>none
   | _=>none
 | _,_=>none
theorem I4 {f:Nat} (hb:∃ F b,P.funcs[f]? = some F∧F.body=some b)
    (h:∀ (blk off cap:Nat) (zs:List (List UInt8)) (w:World),Holds encStr w blk off zs.toArray→zs.length≤9223372036854775807→zs.length≤cap →
     Calls P f #[.slice (some ⟨blk,off,none⟩) zs.length cap] w fun e w'=>e=.returned (.slice (some ⟨blk,off,none⟩) (Lib.compact zs).length cap)∧∃ q,w'=putRow encStr (Sort.ahead w q) blk off (Lib.compact zs++List.replicate (zs.length - (Lib.compact zs).length) []).toArray):JF P gt f Cn:=by
 refine ⟨hb,fun args s r s' hp g w vs hI hG hv=>?_⟩
 unfold Cn at hp
 split at hp<;>try (cases hp; done)
 rename_i id n x
 split at hp<;>try (cases hp; done)
 rename_i T l rm hbx
 split at hp<;>try (cases hp; done)
 rename_i L hL
 split at hp<;>try (cases hp; done)
 rename_i hn
 cases hp
 obtain rfl:=Jq hL
 simp only [VL,V] at hv
 obtain ⟨v,_,rfl,⟨o,cap,rfl,hid,⟨_,hcap⟩,hx1,hx2,ho⟩,rfl⟩:=hv
 obtain rfl:o=0:=by omega
 obtain ⟨hn1,hn2,hn3⟩:=hn
 obtain ⟨hH,hblk,_⟩:=MO hI hbx
 have hcall:=h (g.bx id) 0 cap (L.map u8s) w hH (by rw [List.length_map]; omega) (by rw [List.length_map]; omega)
 rw [List.length_map,← hn1] at hcall
 have hcl:(ER L).length=(Lib.compact (L.map u8s)).length:=by simp [ER]
 refine hcall.mono ?_
 rintro e w' ⟨rfl,m,rfl⟩
 obtain ⟨k1,k2,k3⟩:=Kr (n:=m) (L':=ER L++List.replicate (n - (ER L).length) []) hI hbx (by simp; omega) (fun y hy k hk=>by
  rcases List.mem_append.1 hy with hy | hy
  · exact MP y hy k hk
  · rw [(List.mem_replicate.1 hy).2] at hk; simp at hk)
 have hmap:(ER L++List.replicate (n - (ER L).length) []).map u8s=Lib.compact (L.map u8s)++List.replicate (n - (Lib.compact (L.map u8s)).length) []:=by
  have e1:(ER L).map u8s=Lib.compact (L.map u8s):=by
   simp only [ER,List.map_map]
   have:(u8s∘n8s)=fun x=>x:=by funext x; exact u8_n8 x
   rw [this]; simp
  rw [List.map_append,List.map_replicate,hcl,e1]
  rfl
 rw [hmap] at k1 k2
 refine ⟨_,rfl,g,k1,k2,?_,k3⟩
 rw [← hcl]
 simp only [V]
 exact ⟨0,cap,rfl,by simpa [St.setBox] using hid,⟨by omega,by omega⟩,hx1,fun h=>hx2 h,ho.1,fun hq=>by
  obtain ⟨arr,T,fr,q1,q2⟩:=ho.2 hq
  obtain ⟨arr',fr',q3,q4⟩:=k2.arr _ arr T fr q1
  exact ⟨arr',T,fr',by rw [hcl]; exact q3,by rw [q4]; exact q2⟩⟩
end Go.Proofs.Ytfpoihibfajhlaa.Am

set_option maxRecDepth 100000
namespace Go.Proofs.Ytfpoihibfajhlaa.Am
def KK (s:St) (t:Nat) (Post:AV→St→Prop):Ex→Tr→St→Prop
 | .x _,_,_=>False
 | .n,e,s1=>Post (e.get t) { s1 with lo:=min s.lo s1.lo }
 | .r,e,s1=>Post (e.get t) { s1 with lo:=min s.lo s1.lo }
theorem KK_n (s:St) (t:Nat) (Post:AV→St→Prop) (e:Tr) (s1:St):KK s t Post .n e s1↔Post (e.get t) { s1 with lo:=min s.lo s1.lo }:=Iff.rfl
theorem KK_r (s:St) (t:Nat) (Post:AV→St→Prop) (e:Tr) (s1:St):KK s t Post .r e s1↔Post (e.get t) { s1 with lo:=min s.lo s1.lo }:=Iff.rfl
@[congr] theorem KK_congr {s:St} {t:Nat} {Post:AV→St→Prop} {x:Ex} {e e':Tr} {s1 s1':St} (h1:e=e') (h2:s1=s1'):KK s t Post x e s1=KK s t Post x e' s1':=by rw [h1,h2]
theorem fn_K {prog:Nat→Option Fun} {f t:Nat} {fn:Fun} {args:List AV} {s:St} {Post:AV→St→Prop} (hp:prog f=some fn) (hk:fn.keep=true) (hres:fn.res=[(t,none)]) (hn:Nat.ble args.length fn.ntmps=true) (hb:both fn (wkZ fn.cin args)=none)
    (h:W (lim prog) fn.body (B7 0 (wkZ fn.cin args) .e) s.enter (KK s t Post)) (hpr:fn.prim=none:=by rfl):∃ r s',(lim prog).call f args s=some (r,s')∧Post r s':=by
 rw [Ez]
 unfold Fp
 simp only [hp,hpr,hn,hb]
 unfold Hd
 unfold W St.enter at h
 cases hc:evC (lim prog) fn.body (B7 0 (wkZ fn.cin args) .e) { s with lo:=s.nb } with
 | none=>rw [hc] at h; exact h.elim
 | some r =>
   obtain ⟨x,e,s1⟩:=r
   rw [hc] at h
   cases x with
   | x i=>exact h.elim
   | n=>simp only [hk,hres]; exact ⟨_,_,rfl,h⟩
   | r=>simp only [hk,hres]; exact ⟨_,_,rfl,h⟩
def KK2 (s:St) (t u:Nat) (Post:AV→St→Prop):Ex→Tr→St→Prop
 | .x _,_,_=>False
 | .n,e,s1=>Post (.tup [e.get t,e.get u]) { s1 with lo:=min s.lo s1.lo }
 | .r,e,s1=>Post (.tup [e.get t,e.get u]) { s1 with lo:=min s.lo s1.lo }
@[congr] theorem KK2_congr {s:St} {t u:Nat} {Post:AV→St→Prop} {x:Ex} {e e':Tr} {s1 s1':St} (h1:e=e') (h2:s1=s1'):KK2 s t u Post x e s1=KK2 s t u Post x e' s1':=by rw [h1,h2]
structure Up (s s':St):Prop where
 over:∀ s0:St,Over s0 s→Over s0 s'
 wf:Wf s'
 nb:s.nb≤s'.nb
 nt:s.nt≤s'.nt
theorem Up.refl {s:St} (h:Wf s):Up s s:=⟨fun _ h=>h,h,Nat.le_refl _,Nat.le_refl _⟩
theorem Up.trans {s s1 s2:St} (h:Up s s1) (k:Up s1 s2):Up s s2:=⟨fun s0 h0=>k.over s0 (h.over s0 h0),k.wf,Nat.le_trans h.nb k.nb,Nat.le_trans h.nt k.nt⟩
theorem Mp {s0 s q:St} (h:Over s0 s) (k:Over s q) (hlo:s0.nb≤q.lo):Over s0 q:=by
 refine ⟨by have:=h.nb; have:=k.nb; omega,?_,by have:=h.nt; have:=k.nt; omega,?_,hlo⟩
 · have h1:=k.boxes
   have h2:=h.boxes
   have h3:=h.nb
   have h4:=k.nb
   rw [show q.nb - s0.nb=(q.nb - s.nb)+(s.nb - s0.nb) by omega,← List.drop_drop,h1,h2]
 · have h1:=k.toks
   have h2:=h.toks
   have h3:=h.nt
   have h4:=k.nt
   rw [show q.nt - s0.nt=(q.nt - s.nt)+(s.nt - s0.nt) by omega,← List.drop_drop,h1,h2]
theorem Up.of {s q:St} (h:Over s q) (hw:Wf q):Up s { q with lo:=min s.lo q.lo } :=
 ⟨fun s0 h0=>by
  have h1:=Mp h0 h (by have:=h.lo; have:=h0.nb; omega)
  exact ⟨h1.nb,h1.boxes,h1.nt,h1.toks,by show s0.nb≤min s.lo q.lo; have:=h0.lo; have:=h1.lo; omega⟩,hw.lo _,h.nb,h.nt⟩
structure ToldT (a:AV) (L:List (List Nat)):Prop where
 nt:noTok a=true
 cells:a.cells=[a]
 refs:a.refs=false
 pub:∀ q,pub q a=some (a,q)
 frz:∀ q,frz q a=some (a,q)
 wk:wk (.sl 1 .id) a=.ws false 1 (L.map .s)
 ones:∀ l,ones (a::l)=ones l
theorem NQ:∀ L:List (List Nat),wkM .id (L.map AV.s)=L.map .s
 | []=>by simp only [List.map_nil,wkM]
 | x::L=>by
   simp only [List.map_cons,wkM,NQ L,List.cons.injEq,and_true]
   rw [Am.wk]
theorem Ly:∀ L:List (List Nat),AV.refs.go (L.map AV.s)=false
 | []=>rfl
 | x::L=>by
   simp only [List.map_cons,AV.refs.go,Ly L]
   rfl
theorem Qb (L:List (List Nat)):ToldT (.ws false 1 (L.map .s)) L:=⟨rfl,rfl,by show AV.refs.go _=false; exact Ly L,fun _=>rfl,fun _=>rfl,by simp [Am.wk,NQ],fun _=>rfl⟩
theorem LR:∀ M:List (List Nat),EU (M.map AV.s)=M.map .s
 | []=>rfl
 | x::M=>by
   simp only [List.map_cons,EU]
   rw [LR M]
   rfl
theorem Qc (s:St) (a b c d:Nat) (x:Nat×Bool):Hc s (.bl a b c d x)=some (.bl a b c d x,s):=rfl
theorem Qd (s:St) (a b c d:Nat) (x:Nat×Bool):pub s (.bl a b c d x)=some (.bl a b c d x,s):=rfl
structure Wrote (s s':St) (id:Nat):Prop where
 wf:Wf s'
 nb:s'.nb=s.nb
 nt:s'.nt=s.nt
 box:∀ i,i≠id→s'.box? i=s.box? i
 over:∀ s0:St,s0.nb≤id→Over s0 s→Over s0 s'
 tok:∀ k,s'.tok? k=s.tok? k
end Go.Proofs.Ytfpoihibfajhlaa.Am
