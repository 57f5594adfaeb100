/-
  Slices: a literal, growing, cutting.
-/
import Derived.Test.YtfpoihibfajhlaaAmOps2
import Derived.Laws.Strings
import Derived.Laws.StructEq
import Derived.Lib.Builder
import Derived.Lib.UnsafeStr
import Derived.Lib.MakeNoZero
set_option linter.all false
set_option linter.unusedVariables false
set_option linter.unusedSimpArgs false
set_option linter.unusedSectionVars false
namespace Go.Proofs.Ytfpoihibfajhlaa.Am
variable {CR:Nat→Code→C→Prop} {P:Program} {g:G} {s s':St} {w:World}
/-! ### The elements of a literal -/
theorem B6 (v:Value) (vs:List Value):flat (v::vs)=v.cells.toList++flat vs:=by simp [flat]
theorem Na {A B D:List Value} {a b:Nat} (hA:A.length=a) (hB:B.length=b) (k:Nat):(A++(B++D)).take (a+b)=A++B∧(A++(B++D)).drop (a+b+k)=D.drop k:=by
 have h:(A++B).length=a+b:=by simp [hA,hB]
 rw [← List.append_assoc]
 refine ⟨List.take_left' h,?_⟩
 rw [← List.drop_drop,List.drop_left' h]
theorem JA {es:Nat} (he:1≤es):∀ (parts:List (Nat×Value)) (n:Nat) (xs:List AV) (cells:Array Value),(∀ i p,parts[i]? = some p→p.1=n+i)→VL g s w xs (parts.map (·.2))→AY es xs=true →
    (n+parts.length)*es≤cells.size →
    ∃ cells',Instr.fill (fun i=>some (i*es,es)) cells parts=some cells'∧cells'.toList=cells.toList.take (n*es)++(flat (parts.map (·.2))++cells.toList.drop ((n+parts.length)*es))
 | [],n,xs,cells,_,_,_,hs=>⟨cells,rfl,by simp [flat]⟩
 | (i, v)::parts,n,xs,cells,hi,hV,ha,hs=>by
   have h0:i=n:=hi 0 (i,v) rfl
   subst h0
   match xs,hV with
   | x :: xs,hV =>
     simp only [List.map_cons,VL] at hV
     obtain ⟨v',r,he',h1,h2⟩:=hV
     simp only [List.cons.injEq] at he'
     obtain ⟨rfl,rfl⟩:=he'
     simp only [AY,Bool.and_eq_true] at ha
     have hx:=Nat.eq_of_beq_eq_true ha.1.1
     have hsz:=Gp h1
     simp only [List.length_cons] at hs
     have hmul:(i+(parts.length+1))*es=i*es+es+parts.length*es:=by rw [Nat.add_mul,Nat.add_mul]; omega
     have hsize:i*es+v.cells.size≤cells.size:=by omega
     have hf:=Kj v cells (i*es) hsize
     have hfs:(v.cells.zipIdx.foldl (fun cs x=>cs.setIfInBounds (i*es+x.2) x.1) cells).size=cells.size:=by
      have:=congrArg List.length hf
      simp only [List.length_append,List.length_take,List.length_drop,Array.length_toList] at this
      omega
     have hmul2:(i+1+parts.length)*es=i*es+es+parts.length*es:=by rw [Nat.add_mul,Nat.add_mul]; omega
     obtain ⟨cells',e1,e2⟩:=JA he parts (i+1) xs (v.cells.zipIdx.foldl (fun cs x=>cs.setIfInBounds (i*es+x.2) x.1) cells)
      (fun j p hj=>by have:=hi (j+1) p (by simpa using hj); omega) h2 ha.2 (by omega)
     refine ⟨cells',?_,?_⟩
     · simp only [Instr.fill]
       rw [if_neg (by simp only [Bool.or_eq_true,bne_iff_ne,ne_eq,decide_eq_true_eq]; omega)]
       exact e1
     · rw [e2,hf]
       have hm1:(i+1)*es=i*es+es:=by rw [Nat.add_mul]; omega
       have hl1:(cells.toList.take (i*es)).length=i*es:=by rw [List.length_take,Array.length_toList]; omega
       have hl2:v.cells.toList.length=es:=by rw [Array.length_toList]; omega
       obtain ⟨h3,h4⟩:=Na (D:=cells.toList.drop (i*es+v.cells.toList.length)) hl1 hl2 (parts.length*es)
       simp only [List.map_cons,B6,List.length_cons]
       rw [hm1,h3,hmul2,h4,List.drop_drop,hl2,hmul]
       simp only [List.append_assoc]
theorem IG {gt:Nat→Option (List AV)}:∀ {parts:List (Nat×Operand)} {n:Nat} {xs:List X},Eo gt n parts=some xs→xs.length=parts.length∧∀ i p,parts[i]? = some p→p.1=n+i
 | [],n,xs,h=>by simp only [Eo] at h; cases h; simp
 | (i, x)::parts,n,xs,h=>by
   simp only [Eo] at h
   split at h
   · rename_i a r h1 h2
     split at h
     · rename_i h3
       cases h
       obtain ⟨h4,h5⟩:=IG h2
       refine ⟨by simp [h4],fun j p hj=>?_⟩
       cases j with
       | zero=>simp at hj; subst hj; exact h3
       | succ j=>have:=h5 j p (by simpa using hj); omega
     · cases h
   · cases h
theorem JB {gt:Nat→Option (List AV)} (hG:GT gt g w) {e:Tr} {a:Act} (hT:VT g s w e a.tmps):∀ {parts:List (Nat×Operand)} {n:Nat} {xs:List X},Eo gt n parts=some xs →
    VL g s w (evX e xs) (parts.map fun x=>a.eval x.2)
 | [],n,xs,h=>by simp only [Eo] at h; cases h; simp [evX,VL]
 | (i, x)::parts,n,xs,h=>by
   simp only [Eo] at h
   split at h
   · rename_i b r h1 h2
     split at h
     · cases h
       simp only [evX,VL,List.map_cons]
       exact ⟨_,_,rfl,AM hG hT h1,JB hG hT h2⟩
     · cases h
   · cases h
theorem IH (hI:Inv CR g s w) {es:Nat} {xs:List AV} {vs:List Value} (he:1≤es) (ha:AY es xs=true) (hV:VL g s w xs vs) {arr:Array Value} (T:Nat) (harr:arr.toList=flat vs) :
    Good CR g s w s (.sl es xs .full) (.slice (some ⟨w.heap.size,0,none⟩) xs.length xs.length) (w.alloc (.cells arr T)):=by
 have hL:=Le.newRow hI arr.size (.cells arr T)
 refine ⟨_,Inv.newRow hI arr.size (.cells arr T),hL,?_,Esc.refl _⟩
 simp only [V]
 refine ⟨_,_,_,vs,rfl,⟨he,Nat.le_refl _⟩,ha,trivial,fun _=>⟨Ap hL _ _ hV,fun j v hj=>?_,?_,rfl⟩⟩
 · simp only [World.cell?,Ax]
   rw [← harr] at hj
   simpa using hj
 · right
   have:=Ah hV ha
   rw [← harr] at this
   simp [G.newRow]; simp at this; omega
theorem bsl_ok {gt:Nat→Option (List AV)} (hI:Inv CR g s w) (hG:GT gt g w) {e:Tr} {a:Act} (hT:VT g s w e a.tmps) {t el es len:Nat} {z:AV} {parts:Array (Nat×Operand)} {xs:List X}
    (hu:P.underlying t=some (.slice el)) (hn:A5 P el=some es) (hz:ES P el=some z) (hx:Eo gt 0 parts.toList=some xs) (hlen:xs.length=len) (hsz:len*es≤2^24)
    {vs:List AV} (hp:pubL s (evX e xs)=some (vs,s')) (he:1≤es) (ha:AY es vs=true) :
    ∃ v w',(Instr.buildSlice t len (parts.map fun (i,x)=>(i,a.eval x))).run P w=.ok v w'∧Good CR g s w s' (.sl es vs .full) v w':=by
 obtain ⟨hxl,hidx⟩:=IG hx
 have hV0:=JB hG hT hx
 obtain ⟨g1,hI1,hL1,hV1,hE1⟩:=EQ hI hV0 hp
 obtain ⟨zv,hz1,hz2⟩:=BS (P:=P) hz
 have hvl:=hV1.length
 simp only [List.length_map] at hvl
 have key:∀ zs:Array Value,zs.size=len*es→∃ cells',Instr.fill (fun i=>some (i*es,es)) zs ((parts.map fun (i,x)=>(i,a.eval x)).toList)=some cells'∧cells'.toList=flat (parts.toList.map fun x=>a.eval x.2):=by
  intro zs hzs
  have hpl:(parts.map fun (i,x)=>(i,a.eval x)).toList=parts.toList.map fun x=>(x.1,a.eval x.2):=by simp
  rw [hpl]
  obtain ⟨cells',e1,e2⟩:=JA he (parts.toList.map fun x=>(x.1,a.eval x.2)) 0 vs zs (fun i p hp=>by
   simp only [List.getElem?_map,Option.map_eq_some_iff] at hp
   obtain ⟨q,hq,rfl⟩:=hp
   exact hidx i q hq) (by simpa [Function.comp_def] using hV1) ha (by simp; rw [hzs,← hlen,hxl]; simp)
  refine ⟨cells',e1,?_⟩
  rw [e2]
  simp only [Nat.zero_mul,List.take_zero,List.nil_append,List.length_map,Nat.zero_add,List.map_map]
  rw [List.drop_of_length_le (by simp; rw [hzs,← hlen,hxl]; simp)]
  simp [Function.comp_def]
 have hvsl:vs.length=len:=by rw [← hlen,hxl]; omega
 by_cases h0:len*es=0
 · obtain ⟨cells',e1,e2⟩:=key ((Array.range (len*es)).map (fun i=>(#[]:Array Value)[i % (#[]:Array Value).size]!)) (by simp)
   obtain hgood:=IH hI1 he ha hV1 el (arr:=cells') e2
   refine ⟨_,_,?_,Good.from hL1 hE1 hgood⟩
   simp only [Instr.buildSlice,Sem.run_bind,AA hu,Result.andThen_ok,Ae hn]
   rw [if_neg (by omega)]
   simp only [h0,if_true,Sem.run_bind,Sem.run_pure,Result.andThen_ok]
   rw [h0] at e1
   simp only [e1]
   simp [newRow,World.alloc_eq,hvsl]
 · obtain ⟨cells',e1,e2⟩:=key ((Array.range (len*es)).map (fun i=>zv.cells[i % zv.cells.size]!)) (by simp)
   obtain hgood:=IH hI1 he ha hV1 el (arr:=cells') e2
   refine ⟨_,_,?_,Good.from hL1 hE1 hgood⟩
   simp only [Instr.buildSlice,Sem.run_bind,AA hu,Result.andThen_ok,Ae hn]
   rw [if_neg (by omega)]
   simp only [h0,if_false,Sem.run_bind,Sem.run_pure,Result.andThen_ok,hz1,e1]
   simp [newRow,World.alloc_eq,hvsl]
end Go.Proofs.Ytfpoihibfajhlaa.Am

namespace Go.Proofs.Ytfpoihibfajhlaa.Am
variable {CR:Nat→Code→C→Prop} {P:Program} {g:G} {s s':St} {w:World}
theorem JC (n o:Nat) (h:o < n):Builtin.nextslicecap n o≤2*n:=by
 unfold Builtin.nextslicecap
 split
 · omega
 · split
   · omega
   · have hg:∀ r c:Nat,256≤n→c≤2*n→Builtin.growBy n r c≤2*n:=by
      intro r
      induction r with
      | zero=>intro c _ hc; exact hc
      | succ r ih =>
        intro c hn hc
        simp only [Builtin.growBy]
        split
        · exact hc
        · exact ih _ hn (by omega)
     exact hg 4 o (by omega) (by omega)
theorem Gi (l:List Nat):(AL l).data.toList=l.map UInt8.ofNat:=by simp [AL]
theorem Bd (l:List Nat):(AL l).size=l.length:=by simp [AL,ByteArray.size]
theorem Gj {es:Nat}:∀ {xs:List AV} {vs:List Value},VL g s w xs vs→AY es xs=true→∀ v∈flat vs,v.oneCell'=true
 | [],vs,h,_=>by simp only [VL] at h; subst h; simp [flat]
 | a::l,vs,h,ha=>by
   simp only [VL] at h
   obtain ⟨v,r,rfl,h1,h2⟩:=h
   simp only [AY,Bool.and_eq_true] at ha
   intro u hu
   rw [B6] at hu
   rcases List.mem_append.1 hu with hu | hu
   · exact Ec ha.1.2 (B8 h1) u hu
   · exact Gj h2 ha.2 u hu
theorem II (hI:Inv CR g s w) {id off n:Nat} {ys:List AV} (h:rowB s id off n=some ys):∃ vs,VL g s w ys vs∧vs.length=n∧ys.length=n∧BQ w (g.bx id) off vs:=by
 unfold rowB at h
 split at h<;>try (cases h; done)
 rename_i l hb
 obtain ⟨vs,h2,h3⟩:=cells?_ok hI hb
 obtain ⟨c1,c2,_⟩:=Kf h2 h
 exact ⟨_,c1,by have:=VL.length c1; omega,c2,by simpa using D9 (off:=off) (n:=n) h3⟩
theorem Kl:∀ {xs:List AV} {vs:List Value},VL g s w xs vs→ones xs=true→flat vs=vs∧AY 1 xs=true
 | [],vs,h,_=>by simp only [VL] at h; subst h; exact ⟨rfl,rfl⟩
 | a::l,vs,h,ho=>by
   simp only [VL] at h
   obtain ⟨v,r,rfl,h1,h2⟩:=h
   obtain ⟨o1,o2⟩:=Gg ho
   obtain ⟨e1,e2⟩:=Kl h2 o2
   have hc:v.cells=#[v]:=by
    have:=L7 o1 h1
    cases v<;>first | rfl | (exact absurd this (by simp [Value.oneCell']))
   refine ⟨by rw [B6,e1,hc]; rfl,?_⟩
   have hl:a.cells=[a]:=by cases a<;>first | rfl | (simp [ones] at o1)
   simp only [AY,hl,o1,e2,List.length_singleton]; rfl
theorem EA (a b:List Value):flat (a++b)=flat a++flat b:=by simp [flat]
theorem MB:∀ {a b:List AV},ones (a++b)=true→ones a=true∧ones b=true
 | [],_,h=>⟨rfl,h⟩
 | x::a,b,h=>by
   obtain ⟨h1,h2⟩:=Gg (l:=a++b) h
   obtain ⟨h3,h4⟩:=MB h2
   refine ⟨?_,h4⟩
   cases x<;>first | exact h3 | (simp [ones] at h1)
theorem Nb {l:List AV} (n:Nat) (h:ones l=true):ones (l.take n)=true∧ones (l.drop n)=true:=by
 rw [← List.take_append_drop n l] at h; exact MB h
theorem EB (es:Nat):∀ (n:Nat) (l:List AV),n*es≤l.length→1≤es→(Es es n l).length=n
 | 0,_,_,_=>rfl
 | n+1,l,h,he=>by
   have hm:(n+1)*es=n*es+es:=by rw [Nat.add_mul]; omega
   have:=EB es n (l.drop es) (by rw [List.length_drop]; omega) he
   simp only [Es,List.length_append,this]
   by_cases h1:es=1
   · rw [if_pos h1]; simp; omega
   · rw [if_neg h1]; simp; omega
theorem E1 {es:Nat} (he:1≤es):∀ (n:Nat) {l:List AV} {us:List Value},l.length=n*es→ones l=true→VL g s w l us →
    ∃ vs,VL g s w (Es es n l) vs∧flat vs=us∧AY es (Es es n l)=true
 | 0,l,us,hl,_,hv=>by
   have:l=[]:=List.length_eq_zero_iff.1 (by omega)
   subst this
   simp only [VL] at hv; subst hv
   exact ⟨[],by simp [Es,VL],rfl,rfl⟩
 | n + 1,l,us,hl,ho,hv=>by
   have hm:(n+1)*es=n*es+es:=by rw [Nat.add_mul]; omega
   obtain ⟨o1,o2⟩:=Nb es ho
   obtain ⟨vs,k1,k2,k3⟩:=E1 he n (l:=l.drop es) (us:=us.drop es) (by rw [List.length_drop]; omega) o2 (EP es hv)
   have ht:=E0 es hv
   have hlt:(l.take es).length=es:=by rw [List.length_take]; omega
   by_cases h1:es=1
   · subst h1
     obtain ⟨f1,f2⟩:=Kl ht o1
     refine ⟨us.take 1++vs,?_,?_,?_⟩
     · simp only [Es,if_true]; exact L9 ht k1
     · rw [EA,f1,k2,List.take_append_drop]
     · simp only [Es,if_true]
       cases hl1:l.take 1 with
       | nil=>simpa using k3
       | cons a r =>
         rw [hl1] at f2
         simp only [AY,Bool.and_eq_true] at f2
         have hr:r=[]:=by rw [hl1] at hlt; simpa using hlt
         subst hr
         simp only [List.cons_append,List.nil_append,AY,Bool.and_eq_true]
         exact ⟨f2.1,k3⟩
   · refine ⟨.agg (us.take es).toArray::vs,?_,?_,?_⟩
     · simp only [Es,if_neg h1,List.cons_append,List.nil_append,VL,V]
       exact ⟨_,_,rfl,⟨_,ht,rfl⟩,k1⟩
     · rw [B6,k2]; simp [Value.cells]
     · simp only [Es,if_neg h1,List.cons_append,List.nil_append,AY,AV.cells,Bool.and_eq_true]
       exact ⟨⟨by rw [hlt]; exact Nat.beq_refl _,o1⟩,k3⟩
theorem Hn:∀ {xs:List AV} {vs:List Value},VL g s w xs vs→VL g s w (EU xs) (flat vs)
 | [],vs,h=>by simp only [VL] at h; subst h; simp [EU,flat,VL]
 | a::l,vs,h=>by
   simp only [VL] at h
   obtain ⟨v,r,rfl,h1,h2⟩:=h
   rw [B6]
   exact L9 (B8 h1) (Hn h2)
theorem Ji {es:Nat} {y:AV} {ys:List AV} {yv:Value} (hI:Inv CR g s w) (hv:V g s w y yv) (h:elems s es y=some ys) :
    ∃ vs,VL g s w ys vs∧AY es ys=true∧(Builtin.lenOf yv).run P w=.ok ys.length w∧(Builtin.firstCells es ys.length yv).run P w=.ok (flat vs).toArray w∧∀ v∈flat vs,v.oneCell'=true:=by
 cases y<;>simp only [elems] at h<;>try cases h
 case bl id e off n x =>
  split at h<;>try (cases h; done)
  rename_i he
  obtain ⟨rfl,hes⟩:=he
  split at h<;>try (cases h; done)
  rename_i cs hr
  split at h<;>try (cases h; done)
  rename_i ho
  cases h
  obtain ⟨us,r1,r2,r3,r4⟩:=II hI hr
  obtain ⟨vs,f1,f2,f3⟩:=E1 hes n r3 ho r1
  have hcl:=EB e n cs (by omega) hes
  simp only [V] at hv
  obtain ⟨o,cap,rfl,_,hz,_,hoff,_⟩:=hv
  refine ⟨vs,f1,f3,by rw [hcl]; rfl,?_,Gj f1 f3⟩
  simp only [Builtin.firstCells,f2,hcl]
  by_cases h0:n=0
  · subst h0
    have:us=[]:=List.length_eq_zero_iff.1 (by omega)
    subst this
    simp [loadCells,loadCellsFrom]
  · rw [hoff (by omega)]
    exact Ad r2 r4
 case nsl =>
  simp only [V] at hv; subst hv
  exact ⟨[],by simp [VL],rfl,rfl,by simp [Builtin.firstCells,flat],by simp [flat]⟩
 case wz =>
  simp only [V] at hv; obtain ⟨a,rfl⟩:=hv
  exact ⟨[],by simp [VL],rfl,rfl,by simp [Builtin.firstCells,flat,loadCells,loadCellsFrom],by simp [flat]⟩
 case ws f e xs =>
  split at h
  · rename_i he
    cases h
    subst he
    rcases V_ws.1 hv with ⟨hv2,rfl⟩ | ⟨hv2,rfl⟩ | hv2
    · simp only [V] at hv2; subst hv2
      exact ⟨[],by simp [VL],rfl,rfl,by simp [Builtin.firstCells,flat],by simp [flat]⟩
    · simp only [V] at hv2; obtain ⟨a,rfl⟩:=hv2
      exact ⟨[],by simp [VL],rfl,rfl,by simp [Builtin.firstCells,flat,loadCells,loadCellsFrom],by simp [flat]⟩
    · simp only [V] at hv2
      obtain ⟨b,o,cap,vs,rfl,he,hal,_,hv3⟩:=hv2
      obtain ⟨k1,k2,_,_⟩:=hv3 E4.1
      exact ⟨vs,k1,hal,rfl,by simp only [Builtin.firstCells]; exact Ad (Ah k1 hal) k2,Gj k1 hal⟩
  · cases h
 case s l =>
  split at h
  · rename_i he
    subst he
    cases h
    simp only [V] at hv
    obtain ⟨rfl,hlt⟩:=hv
    have hal:∀ l:List Nat,AY 1 (l.map fun n=>AV.i .u8 (Int.ofNat n))=true:=by
     intro l; induction l with
     | nil=>rfl
     | cons a l ih=>simp only [List.map_cons,AY,AV.cells,List.length_cons,List.length_nil,ih]; rfl
    have hVL:∀ l:List Nat,VL g s w (l.map fun n=>AV.i .u8 (Int.ofNat n)) (l.map fun n=>Value.int .u8 (Int.ofNat n)):=by
     intro l; induction l with
     | nil=>simp [VL]
     | cons a l ih=>simp only [List.map_cons,VL]; exact ⟨_,_,rfl,by simp [V],ih⟩
    refine ⟨_,hVL l,hal l,by simp [Builtin.lenOf,Bd],?_,?_⟩
    · have hfl:∀ l:List Nat,flat (l.map fun n=>Value.int .u8 (Int.ofNat n))=l.map fun n=>Value.int .u8 (Int.ofNat n):=by
       intro l; induction l with
       | nil=>rfl
       | cons a l ih=>simp only [List.map_cons,B6,ih]; rfl
      rw [hfl]
      simp only [Builtin.firstCells,List.length_map,Sem.run_pure]
      congr 1
      apply Array.toList_inj.1
      have hex:((AL l).extract 0 l.length)=AL l:=by
       have:=Bd l
       rw [← this]; exact ByteArray.extract_zero_size
      rw [hex]
      simp only [Array.toList_map,Gi,List.map_map]
      apply List.map_congr_left
      intro n hn
      have:=hlt n hn
      simp only [Function.comp_apply]
      rw [show (UInt8.ofNat n).toNat=n by rw [UInt8.toNat_ofNat']; omega]
      rfl
    · intro v hv
      simp only [flat,List.mem_flatMap,List.mem_map] at hv
      obtain ⟨u,⟨n,_,rfl⟩,hv⟩:=hv
      simp [Value.cells] at hv; subst hv; rfl
  · cases h
 case sl e xs m =>
  split at h
  · rename_i he
    cases h
    obtain ⟨rfl,hok⟩:=he
    simp only [V] at hv
    obtain ⟨b,o,cap,vs,rfl,he,hal,hk,hv⟩:=hv
    obtain ⟨h1,h2,_,_⟩:=hv hok
    refine ⟨vs,h1,hal,by simp [Builtin.lenOf],?_,?_⟩
    · simp only [Builtin.firstCells]
      exact Ad (Ah h1 hal) h2
    · exact Gj h1 hal
  · cases h
theorem Cd {n:Nat}:∀ {a b:List AV},AY n a=true→AY n b=true→AY n (a++b)=true
 | [],b,_,h=>h
 | x::a,b,h,k=>by
   simp only [AY,Bool.and_eq_true] at h
   simp only [List.cons_append,AY,Bool.and_eq_true]
   exact ⟨h.1,Cd h.2 k⟩
structure AppT (P:Program) (c:Array TypeId) (es e:Nat):Prop where
 ex:∃ (t:Nat) (u:Nat) (d:TypeDesc) (i:TypeInfo) (z:Value),c[0]? = some t∧c[1]? = some u∧P.underlying t=some (.slice e)∧P.underlying u=some d∧(∀ k,d≠.int k)∧P.info? e=some i∧i.size=es ∧
  i.bytes≤256∧1≤es∧(∀ w,(zeroValue e).run P w=.ok z w)∧z.cells.size=es
theorem Nc (x y:Value):(#[x,y]:Array Value)[0]? = some x:=rfl
theorem Nd (x y:Value):(#[x,y]:Array Value)[1]? = some y:=rfl
theorem GC {c:Array TypeId} {es e:Nat} (hT:AppT P c es e) {base:Option Addr} {sLen sCap n:Nat} {yv:Value} {ty:TypeId} {new:Array Value}
    (h1:(Builtin.lenOf yv).run P w=.ok n w) (h2:∀ dr,(Builtin.firstCells es n yv).run P { w with drawn:=dr }=.ok new { w with drawn:=dr }) :
    (sLen+n≤sCap→(Builtin.append_ c ty #[.slice base sLen sCap,yv]).run P w =
     (match base with | some a=>(storeCells (a.add (sLen*es)) new.toList).run P w | none=>.ok () w).andThen fun _ w'=>.ok (.slice base (sLen+n) sCap) w') ∧
    (sCap < sLen+n→(sLen+n)*es < 2^38→∀ old:Array Value,(∀ dr,(Builtin.firstCells es sLen (.slice base sLen sCap)).run P { w with drawn:=dr }=.ok old { w with drawn:=dr }) →
     ∃ (cap:Nat) (rest:Array Value),sLen+n≤cap∧rest.size=(cap - (sLen+n))*es ∧
      (Builtin.append_ c ty #[.slice base sLen sCap,yv]).run P w=.ok (.slice (some ⟨w.heap.size,0,none⟩) (sLen+n) cap) ({ w with drawn:=w.drawn+1 }.alloc (.cells (old++new++rest) e))):=by
 obtain ⟨t,u,d,i,z,hc0,hc1,ht,hu,hd,hi,hsz,hb,hes,hz,hzs⟩:=hT.ex
 have hsz':A5 P e=some es:=by simp [A5,hi,hsz]
 have hm:(match (d:TypeDesc) with | .int _=>true | _=>false)=false:=by cases d<;>first | rfl | (exact absurd rfl (hd _))
 have hw:({ w with drawn:=w.drawn }:World)=w:=rfl
 constructor
 · intro hle
   simp only [Builtin.append_,hc0,hc1,Nc,Nd,Sem.run_bind,AA ht,AA hu,Result.andThen_ok,Ae hsz',Sem.run_pure,hm,
    Bool.false_eq_true,if_false,h1,Bool.not_false,if_true]
   rw [if_pos hle]
   have h2':=h2 w.drawn
   rw [hw] at h2'
   simp only [Sem.run_bind,h2',Result.andThen_ok]
   cases base with
   | none=>simp
   | some a =>
     simp only
     cases hr:(storeCells (a.add (sLen*es)) new.toList).run P w<;>simp [hr]
 · intro hlt hsmall old hold
   have hneed:sLen+n < 2^38:=by
    have:(sLen+n)*1≤(sLen+n)*es:=Nat.mul_le_mul_left _ hes
    omega
   have hnc:=JC (sLen+n) sCap hlt
   have hbytes:Builtin.nextslicecap (sLen+n) sCap*i.bytes≤2^48:=by
    have:=Nat.mul_le_mul hnc hb
    omega
   simp only [Builtin.append_,hc0,hc1,Nc,Nd,Sem.run_bind,AA ht,AA hu,Result.andThen_ok,Ae hsz',Sem.run_pure,hm,
    Bool.false_eq_true,if_false,h1,Bool.not_false,if_true]
   rw [if_neg (by omega)]
   simp only [Sem.run_bind,BD hi,Result.andThen_ok]
   rw [if_neg (by
    intro hh
    have:IntKind.i64.max=9223372036854775807:=rfl
    rw [this] at hh; omega)]
   simp only [Sem.run_bind,Sem.run_pure,Result.andThen_ok,BD hi]
   rw [if_neg (by omega)]
   simp only [Sem.run_pure,Result.andThen_ok,Sem.run_bind,run_choose,Question.forced,Bool.false_eq_true,if_false,run_askRoom,BD hi,hold,h2,hz]
   refine ⟨Question.cut (.appendCap (sLen+n) sCap e) (w.tape w.drawn (.appendCap (sLen+n) sCap e)),Builtin.zeroCells z.cells (Question.cut (.appendCap (sLen+n) sCap e) (w.tape w.drawn (.appendCap (sLen+n) sCap e)) - (sLen+n)),?_,?_,?_⟩
   · simp only [Question.cut]; omega
   · simp [Builtin.zeroCells,hzs]
   · first | (simp [newRow,World.alloc_eq]; rfl) | simp [newRow,World.alloc_eq]
theorem CW {w w':World} (h:w'.heap=w.heap) {b off:Nat} {l:List Value} (hc:BQ w b off l):BQ w' b off l:=fun j v hj=>by rw [cell?_heap h]; exact hc j v hj
theorem LW {es:Nat} {y:AV} {ys:List AV} {yv:Value} (hI:Inv CR g s w) (hv:V g s w y yv) (h:elems s es y=some ys) :
    ∃ vs,VL g s w ys vs∧AY es ys=true∧(Builtin.lenOf yv).run P w=.ok ys.length w∧(∀ dr,(Builtin.firstCells es ys.length yv).run P { w with drawn:=dr }=.ok (flat vs).toArray { w with drawn:=dr })∧∀ v∈flat vs,v.oneCell'=true:=by
 obtain ⟨vs,h1,h2,h3,h4,h5⟩:=Ji (P:=P) hI hv h
 refine ⟨vs,h1,h2,h3,fun dr=>?_,h5⟩
 have hL:Le g s w g s { w with drawn:=dr }:=Le.heap rfl
 cases y<;>simp only [elems] at h<;>try cases h
 case bl id e off n x =>
  split at h<;>try (cases h; done)
  rename_i he
  obtain ⟨rfl,hes⟩:=he
  split at h<;>try (cases h; done)
  rename_i cs hr
  split at h<;>try (cases h; done)
  rename_i ho
  cases h
  obtain ⟨us',r1,r2,r3,r4⟩:=II hI hr
  obtain ⟨vs',f1,f2,f3⟩:=E1 hes n r3 ho r1
  have hcl:=EB e n cs (by omega) hes
  simp only [V] at hv
  obtain ⟨o,cap,rfl,_,hz,_,hoff,_⟩:=hv
  simp only [Builtin.firstCells,hcl] at h4 ⊢
  by_cases h0:n=0
  · subst h0
    simp only [Nat.zero_mul,loadCells,loadCellsFrom,Sem.run_pure] at h4 ⊢
    injection h4 with h4 _
    rw [h4]
  · rw [hoff (by omega)] at h4 ⊢
    rw [Ad r2 r4] at h4
    injection h4 with h4 _
    rw [← h4]
    exact Ad r2 (CW rfl r4)
 case nsl =>
  simp only [V] at hv; subst hv
  simp only [VL] at h1; subst h1
  simp [Builtin.firstCells,flat]
 case wz =>
  simp only [V] at hv; obtain ⟨a,rfl⟩:=hv
  simp only [VL] at h1; subst h1
  simp [Builtin.firstCells,flat,loadCells,loadCellsFrom]
 case ws f e xs =>
  split at h
  · rename_i he
    cases h
    subst he
    rcases V_ws.1 hv with ⟨hv2,rfl⟩ | ⟨hv2,rfl⟩ | hv2
    · simp only [V] at hv2; subst hv2
      simp only [VL] at h1; subst h1
      simp [Builtin.firstCells,flat]
    · simp only [V] at hv2; obtain ⟨a,rfl⟩:=hv2
      simp only [VL] at h1; subst h1
      simp [Builtin.firstCells,flat,loadCells,loadCellsFrom]
    · simp only [V] at hv2
      obtain ⟨b,o,cap,vs',rfl,he,hal,hk,hv3⟩:=hv2
      obtain ⟨k1,k2,_,_⟩:=hv3 E4.1
      have e1:(flat vs).toArray=(flat vs').toArray:=by
       have:=Ad (P:=P) (Ah k1 hal) k2
       simp only [Builtin.firstCells] at h4
       rw [this] at h4
       injection h4 with h4 _
       exact h4.symm
      rw [e1]
      simp only [Builtin.firstCells]
      exact Ad (Ah k1 hal) (CW rfl k2)
  · cases h
 case s l =>
  simp only [V] at hv
  obtain ⟨rfl,_⟩:=hv
  simp only [Builtin.firstCells,Sem.run_pure] at h4 ⊢
  injection h4 with h4 _
  rw [h4]
 case sl e xs m =>
  split at h
  · rename_i he
    cases h
    obtain ⟨rfl,hok⟩:=he
    simp only [V] at hv
    obtain ⟨b,o,cap,vs',rfl,he,hal,hk,hv⟩:=hv
    obtain ⟨k1,k2,_,_⟩:=hv hok
    have e1:(flat vs).toArray=(flat vs').toArray:=by
     have:=Ad (P:=P) (Ah k1 hal) k2
     simp only [Builtin.firstCells] at h4
     rw [this] at h4
     injection h4 with h4 _
     exact h4.symm
    rw [e1]
    simp only [Builtin.firstCells]
    exact Ad (Ah k1 hal) (CW rfl k2)
  · cases h
theorem Esc.tok (s:St) (f:St) (h1:f.lo=s.lo) (h2:f.nb=s.nb) (h3:f.boxes=s.boxes):Esc s f:=Esc.same h1 (fun id _=>by simp [St.box?,h2,h3])
theorem CX (hI:Inv CR g s w) {es cap:Nat} {xs:List AV} {vs:List Value} (he:1≤es) (ha:AY es xs=true) (hV:VL g s w xs vs) {arr:Array Value} (T:Nat) {ty:Option Nat} {rest:List Value}
    (harr:arr.toList=flat vs++rest) (hcap:xs.length≤cap) (hsz:cap*es≤arr.size) {fr:Nat×Nat} (hfr:∀ x,x < cap*es→¬ (fr.1≤x∧x < fr.2)) (hty:∀ T',ty=some T'→T=T'∧fr.2=0) :
    Good CR g s w (s.newTok xs.length ty) (.sl es xs (.tok s.nt 0)) (.slice (some ⟨w.heap.size,0,none⟩) xs.length cap) (w.alloc (.cells arr T fr)):=by
 have hL:=Le.newTok hI xs.length es cap ty (.cells arr T fr)
 refine ⟨_,Inv.newTok hI xs.length es cap ty arr T fr hty he hcap hsz hfr,hL,?_,Esc.tok _ _ rfl rfl rfl⟩
 have hfl:=Ah hV ha
 simp only [V]
 refine ⟨_,_,_,vs,rfl,⟨he,hcap⟩,ha,⟨by simp [St.newTok],fun t ht=>Nat.zero_le _⟩,fun _=>⟨Ap hL _ _ hV,fun j v hj=>?_,?_,rfl,?_,hcap,fun t ht=>?_⟩⟩
 · simp only [World.cell?,Ax]
   have:arr.toList[j]? = some v:=by
    rw [harr,List.getElem?_append_left (by rcases List.getElem?_eq_some_iff.1 hj with ⟨h,_⟩; exact h)]; exact hj
   simpa using this
 · right
   refine ⟨⟨xs.length,0,0,ty⟩,by rw [newTok_tok?,if_pos rfl],by simp [G.newTok],?_⟩
   simp [G.newTok]
 · simp [G.newTok]
 · rw [newTok_tok?,if_pos rfl] at ht
   cases ht
   exact ⟨Nat.le_refl _,fun _=>by simp [G.newTok]⟩
theorem Pv {es e : Nat} {x y r:AV} {xv yv:Value} {c:Array TypeId} {ty:TypeId} (hI:Inv CR g s w) (hT:AppT P c es e) (hx:V g s w x xv) (hy:V g s w y yv) (h:appA s es e x y=some (r,s')) :
    ∃ v w',(Builtin.append_ c ty #[xv,yv]).run P w=.ok v w'∧Good CR g s w s' r v w':=by
 unfold appA at h
 cases hel:elems s es y with
 | none=>simp [hel] at h
 | some ys =>
   obtain ⟨us,hu1,hu2,hu3,hu4,hu6⟩:=LW (P:=P) hI hy hel
   have hu4':(Builtin.firstCells es ys.length yv).run P w=.ok (flat us).toArray w:=hu4 w.drawn
   have hes:1≤es:=by obtain ⟨_,_,_,_,_,_,_,_,_,_,_,_,_,h,_⟩:=hT.ex; exact h
   have hfu:=Ah hu1 hu2
   cases ys with
   | nil =>
     simp only [hel] at h
     have hus:us=[]:=by simpa [VL] using hu1
     subst hus
     have hsame:∀ b n k,n≤k→xv=.slice b n k→(Builtin.append_ c ty #[xv,yv]).run P w=.ok xv w:=by
      rintro b n k hnk rfl
      rw [(GC (P:=P) hT (base:=b) (sLen:=n) (sCap:=k) (ty:=ty) hu3 hu4).1 (by simpa using hnk)]
      cases b<;>simp [flat,storeCells]
     cases x<;>simp only at h<;>try (cases h; done)
     case nsl =>
      cases h
      have hx':=hx
      simp only [V] at hx'
      exact ⟨xv,w,hsame none 0 0 (Nat.le_refl _) hx',AH hI hx⟩
     case sl e xs m =>
      cases h
      have hx':=hx
      simp only [V] at hx'
      obtain ⟨b,o,cap,vs,he,h1,h2,h3,h4⟩:=hx'
      exact ⟨xv,w,hsame _ _ _ h1.2 he,AH hI hx⟩
     case bl id e off n q =>
      cases h
      have hx':=hx
      simp only [V] at hx'
      obtain ⟨o,cap,he,h1,h2,h3⟩:=hx'
      exact ⟨xv,w,hsame _ _ _ h2.2 he,AH hI hx⟩
     case wz =>
      cases h
      have hx':=hx
      simp only [V] at hx'
      obtain ⟨a,hx'⟩:=hx'
      exact ⟨xv,w,hsame _ 0 0 (Nat.le_refl _) hx',AH hI hx⟩
     case ws f e xs =>
      cases h
      rcases V_ws.1 hx with ⟨hx',_⟩ | ⟨hx',_⟩ | hx'
      · simp only [V] at hx'
        exact ⟨xv,w,hsame none 0 0 (Nat.le_refl _) hx',AH hI hx⟩
      · simp only [V] at hx'
        obtain ⟨a,hx'⟩:=hx'
        exact ⟨xv,w,hsame _ 0 0 (Nat.le_refl _) hx',AH hI hx⟩
      · simp only [V] at hx'
        obtain ⟨b,o,cap,vs,he,h1,h2,h3,h4⟩:=hx'
        exact ⟨xv,w,hsame _ _ _ h1.2 he,AH hI hx⟩
   | cons y0 l =>
     simp only [hel] at h
     generalize hys:y0::l=ys at *
     have hpos:1≤ys.length:=by rw [← hys]; simp
     have hdr:Le g s w g s { w with drawn:=w.drawn+1 }:=Le.heap rfl
     have hIdr:Inv CR g s { w with drawn:=w.drawn+1 }:=Inv.heap (w:=w) rfl hI
     have new:∀ (base:Option Addr) (sLen sCap:Nat),sCap < sLen+ys.length→(sLen+ys.length)*es < 2^38→∀ (xs:List AV) (vs:List Value),xs.length=sLen→VL g s w xs vs→AY es xs=true →
         (∀ dr,(Builtin.firstCells es sLen (.slice base sLen sCap)).run P { w with drawn:=dr }=.ok (flat vs).toArray { w with drawn:=dr }) →
         ∃ (cap:Nat) (arr:Array Value) (rest:List Value),sLen+ys.length≤cap∧arr.toList=flat (vs++us)++rest∧cap*es≤arr.size ∧
          (Builtin.append_ c ty #[.slice base sLen sCap,yv]).run P w=.ok (.slice (some ⟨w.heap.size,0,none⟩) (sLen+ys.length) cap) ({ w with drawn:=w.drawn+1 }.alloc (.cells arr e)):=by
      intro base sLen sCap hlt hsm xs vs hxl hV hal hold
      obtain ⟨cap,rest,h1,h2,h3⟩:=(GC (P:=P) hT (base:=base) (sLen:=sLen) (sCap:=sCap) (ty:=ty) hu3 hu4).2 hlt hsm _ hold
      refine ⟨cap,_,rest.toList,h1,by simp [EA],?_,h3⟩
      have hfx:=Ah hV hal
      simp only [Array.size_append,List.size_toArray,hfx,hfu,h2,hxl]
      rw [← Nat.add_mul,← Nat.add_mul]
      exact Nat.mul_le_mul_right _ (by omega)
     have full:∀ {xs:List AV} {xv:Value},V g s w (.sl es xs .full) xv→(xs.length+ys.length)*es < 2^38→∃ v w',(Builtin.append_ c ty #[xv,yv]).run P w=.ok v w'∧Good CR g s w (s.newTok (xs.length+ys.length) (some e)) (.sl es (xs++ys) (.tok s.nt 0)) v w':=by
      intro xs xv hx hsm
      simp only [V] at hx
      obtain ⟨b,o,cap,vs,rfl,h1,h2,h3,h4⟩:=hx
      obtain ⟨k1,k2,k3,k4⟩:=h4 rfl
      simp only [Fv] at k4
      subst k4
      obtain ⟨cap,arr,rest,j1,j2,j3,j4⟩:=new (some ⟨b,o,none⟩) xs.length xs.length (by omega) hsm xs vs rfl k1 h2 (fun dr=>by
       simp only [Builtin.firstCells]; exact Ad (Ah k1 h2) (CW rfl k2))
      obtain hg:=CX (CR:=CR) hIdr hes (Cd h2 hu2) (Ap hdr _ _ (Bf k1 hu1)) e (rest:=rest) j2 (by simpa using j1) j3 (ty:=some e) (fr:=(0,0)) (fun x _=>by simp only; omega) (fun T' hT=>⟨by cases hT; rfl,rfl⟩)
      refine ⟨_,_,j4,?_⟩
      simp only [List.length_append] at hg
      exact Good.from hdr (Esc.refl _) hg
     cases x<;>(try simp only at h)<;>try (cases h; done)
     case wz =>
      split at h
      · rename_i hsm
        cases h
        simp only [V] at hx; obtain ⟨ba,rfl⟩:=hx
        obtain ⟨cap,arr,rest,h1,h2,h3,h4⟩:=new (some ba) 0 0 (by omega) (by simpa using hsm) [] [] rfl (by simp [VL]) rfl (fun dr=>by simp [Builtin.firstCells,flat,loadCells,loadCellsFrom])
        obtain hg:=CX (CR:=CR) hIdr hes hu2 (Ap hdr _ _ hu1) e (rest:=rest) (by simpa using h2) (by omega) h3 (ty:=some e) (fr:=(0,0)) (fun x _=>by simp only; omega) (fun T' hT=>⟨by cases hT; rfl,rfl⟩)
        refine ⟨_,_,h4,?_⟩
        simp only [Nat.zero_add]
        exact Good.from hdr (Esc.refl _) hg
      · cases h
     case nsl =>
      split at h
      · rename_i hsm
        cases h
        simp only [V] at hx; subst hx
        obtain ⟨cap,arr,rest,h1,h2,h3,h4⟩:=new none 0 0 (by omega) (by simpa using hsm) [] [] rfl (by simp [VL]) rfl (fun dr=>by simp [Builtin.firstCells,flat])
        obtain hg:=CX (CR:=CR) hIdr hes hu2 (Ap hdr _ _ hu1) e (rest:=rest) (by simpa using h2) (by omega) h3 (ty:=some e) (fr:=(0,0)) (fun x _=>by simp only; omega) (fun T' hT=>⟨by cases hT; rfl,rfl⟩)
        refine ⟨_,_,h4,?_⟩
        simp only [Nat.zero_add]
        exact Good.from hdr (Esc.refl _) hg
      · cases h
     case ws f e0 xs =>
      cases f with
      | false=>cases h
      | true =>
        simp only at h
        split at h
        · rename_i hc
          obtain ⟨he0,hsm⟩:=hc
          obtain rfl:=he0.symm
          cases h
          have hx0:(∃ a,xv=.slice a 0 0∧xs=[])∨V g s w (.sl es xs .full) xv:=by
           rcases V_ws.1 hx with ⟨hx2,rfl⟩ | ⟨hx2,rfl⟩ | hx2
           · simp only [V] at hx2; exact .inl ⟨_,hx2,rfl⟩
           · simp only [V] at hx2; obtain ⟨a,hx2⟩:=hx2; exact .inl ⟨_,hx2,rfl⟩
           · exact .inr hx2
          rcases hx0 with ⟨ba,rfl,rfl⟩ | hx2
          · obtain ⟨cap,arr,rest,h1,h2,h3,h4⟩:=new ba 0 0 (by omega) (by simpa using hsm) [] [] rfl (by simp [VL]) rfl (fun dr=>by cases ba<;>simp [Builtin.firstCells,flat,loadCells,loadCellsFrom])
            obtain hg:=CX (CR:=CR) hIdr hes hu2 (Ap hdr _ _ hu1) e (rest:=rest) (by simpa using h2) (by omega) h3 (ty:=some e) (fr:=(0,0)) (fun x _=>by simp only; omega) (fun T' hT=>⟨by cases hT; rfl,rfl⟩)
            refine ⟨_,_,h4,?_⟩
            simp only [Nat.zero_add,List.length_nil,List.nil_append]
            exact Good.from hdr (Esc.refl _) hg
          · exact full hx2 hsm
        · cases h
     case bl id e0 off n q =>
         have hx0:=hx
         simp only [V] at hx
         obtain ⟨o,cap,rfl,hid,hz,hq,ho1,ho2⟩:=hx
         split at h
         · rename_i hc
           obtain ⟨he0,hex,hfull,hsm⟩:=hc
           have hqq:=hq.2 hex
           obtain rfl:=he0.symm
           split at h<;>try (cases h; done)
           rename_i cs hr
           split at h<;>try (cases h; done)
           rename_i hone
           cases h
           obtain ⟨us',r1,r2,r3,r4⟩:=II hI hr
           obtain ⟨vs,f1,f2,f3⟩:=E1 hes n r3 hone r1
           have hcl:=EB es n cs (by omega) hes
           have hcap:cap < n+ys.length:=by
            have:cap*es < (n+ys.length)*es:=by omega
            exact Nat.lt_of_mul_lt_mul_right this
           obtain ⟨cap2,arr,rest,j1,j2,j3,j4⟩:=new (some ⟨g.bx id,o,none⟩) n cap hcap hsm (Es es n cs) vs hcl f1 f3 (fun dr=>by
            simp only [Builtin.firstCells,f2]
            by_cases h0:n=0
            · subst h0
              have:us'=[]:=List.length_eq_zero_iff.1 (by omega)
              subst this
              simp [loadCells,loadCellsFrom]
            · rw [ho1 (by omega)]
              exact Ad r2 (CW rfl r4))
           obtain hg:=CX (CR:=CR) hIdr hes (Cd f3 hu2) (Ap hdr _ _ (Bf f1 hu1)) e (rest:=rest) j2 (by simpa [hcl] using j1) j3 (ty:=some e) (fr:=(0,0)) (fun x _=>by simp only; omega) (fun T' hT=>⟨by cases hT; rfl,rfl⟩)
           refine ⟨_,_,j4,?_⟩
           simp only [List.length_append,hcl] at hg
           exact Good.from hdr (Esc.refl _) hg
         · split at h<;>try (cases h; done)
           rename_i hc
           obtain ⟨he0,hroom⟩:=hc
           obtain rfl:=he0.symm
           split at h<;>try (cases h; done)
           rename_i s1 hs
           cases h
           have hle:n+ys.length≤cap:=by
            have:(n+ys.length)*es≤cap*es:=by have:=hq.1; omega
            exact Nat.le_of_mul_le_mul_right this (by omega)
           have hoff:o=off:=ho1 (by omega)
           subst hoff
           have ha:V g s w (.p id (o+n*es)) (.pointer (some ⟨g.bx id,o+n*es,none⟩)):=by simp only [V]; exact ⟨hid,trivial⟩
           have hv:V g s w (.agg (EU ys)) (.agg (flat us).toArray):=by simp only [V]; exact ⟨_,Hn hu1,rfl⟩
           obtain ⟨w',⟨ad,h1,_,h3⟩,g1,i1,i2,_,i4⟩:=Hm (P:=P) hI ha hv hs
           simp only [Value.pointer.injEq,Option.some.injEq] at h1
           subst h1
           refine ⟨.slice (some ⟨g.bx id,o,none⟩) (n+ys.length) cap,w',?_,g1,i1,i2,?_,i4⟩
           · rw [(GC (P:=P) hT (base:=some ⟨g.bx id,o,none⟩) (sLen:=n) (sCap:=cap) (ty:=ty) hu3 hu4).1 hle]
             have h4:(storeCells ⟨g.bx id,o+n*es,none⟩ (flat us).toArray.toList).run P w=.ok () w':=h3
             simp only [Ck]
             rw [h4]; rfl
           · have:=CY i2 _ _ hx0
             simp only [V] at this ⊢
             obtain ⟨o2,cap2,e1,e2,e3,e4,e5,e6,e7⟩:=this
             injection e1 with e1a e1b e1c
             subst e1c
             refine ⟨o2,cap,by rw [← e1a],e2,⟨hes,hle⟩,e4,e5,e6,e7⟩
     case sl e0 xs m =>
      cases m with
      | shut=>cases h
      | full =>
        try simp only at h
        split at h
        · rename_i hc
          obtain ⟨he0,hsm⟩:=hc
          obtain rfl:=he0.symm
          cases h
          exact full hx hsm
        · cases h
      | tok k u =>
        try simp only at h
        cases ht:s.tok? k with
        | none=>simp [ht] at h
        | some t =>
          simp only [ht] at h
          split at h
          · rename_i hc
            obtain ⟨he0,hver,hfront,hty,hsm⟩:=hc
            obtain rfl:=he0.symm
            cases h
            simp only [V] at hx
            obtain ⟨b,o,cap,vs,rfl,h1,h2,h3,h4⟩:=hx
            have hok:s.ok (.tok k u)=true:=EL.2 ⟨t,ht,hver⟩
            obtain ⟨k1,k2,k3,k4⟩:=h4 hok
            obtain ⟨rfl,hes',hcap,k5⟩:=k4
            obtain ⟨_,k6⟩:=k5 t ht
            have htk:=k6 hfront
            have hTok:=hI.tok k t ht
            have hfx:=Ah k1 h2
            by_cases hle:xs.length+ys.length≤cap
            · -- it grows where it lies
              obtain ⟨arr,T,fr,r1,r2,r3,r4⟩:=hTok.row
              simp only [htk] at r1 r2 r3
              have hmul:(xs.length+ys.length)*es≤cap*es:=Nat.mul_le_mul_right _ hle
              rw [Nat.add_mul] at hmul
              have hpub:t.pub*es≤xs.length*es:=Nat.mul_le_mul_right _ (by have:=hTok.pub; omega)
              have hone:∀ v∈(flat us).toArray.toList,v.oneCell'=true:=fun v hv=>hu6 v (by simpa using hv)
              obtain ⟨w',arr',e1,e2,e3,e4,e5,e6⟩:=Dc (P:=P) (b:=b) (off:=xs.length*es) (flat us).toArray.toList 0 w arr hone r1 (by simp only [List.size_toArray,hfu]; omega)
               (fun x hx1 hx2=>r3 x (by omega) (by simp only [List.size_toArray,hfu] at hx2; omega))
              have hh:∀ c,c≠(g.tk k).blk→w'.heap[c]? = w.heap[c]? := by rw [htk]; exact e3
              have hold:∀ x:Nat,x < t.front*(g.tk k).es→arr'[x]? = arr[x]? := fun x hx=>by
               rw [e6 x,if_neg (by rw [hfront,htk] at hx; simp only at hx; omega)]
              have hL:=Le.grow (m:=ys.length) (w':=w') (arr:=arr) (arr':=arr') (T:=T) (fr:=fr) hI ht e2.1 e2.2 hh (by rw [htk]; exact r1) (by rw [htk]; exact e4) e5 hold
              have hI2:=Inv.grow (m:=ys.length) (w':=w') (arr:=arr) (arr':=arr') (T:=T) (fr:=fr) hI ht e2.1 e2.2 hh (by rw [htk]; exact r1) (by rw [htk]; exact e4) e5 hold (by rw [htk]; simp only; omega)
              rw [hfront] at hL hI2
              have hVL:=Ap hL _ _ (Bf k1 hu1)
              have hal:=Cd h2 hu2
              refine ⟨_,_,by
               rw [(GC (P:=P) hT (base:=some ⟨b,0,none⟩) (sLen:=xs.length) (sCap:=cap) (ty:=ty) hu3 hu4).1 hle]
               simp only [Ck,Nat.zero_add]
               rw [e1]; rfl,g,hI2,hL,?_,Esc.tok _ _ rfl rfl rfl⟩
              simp only [V]
              refine ⟨b,0,cap,vs++us,by simp,⟨hes,by simpa using hle⟩,hal,⟨tok?_lt (s:=s) ht,fun t1 ht1=>?_⟩,fun _=>⟨hVL,fun j v hj=>?_,?_,rfl,hes',by simpa using hle,fun t1 ht1=>?_⟩⟩
              · rw [setTok_tok? hI.lenT (tok?_lt ht),if_pos rfl] at ht1; cases ht1; simp only; omega
              · rw [EA] at hj
                simp only [World.cell?,e4]
                have h6:=e6 j
                by_cases hj2:j < xs.length*es
                · rw [List.getElem?_append_left (by omega)] at hj
                  rw [if_neg (by omega)] at h6
                  have:=k2 j v hj
                  simp only [World.cell?,r1,Nat.zero_add] at this
                  simp only [Nat.zero_add]
                  rw [h6]; simpa using this
                · have hlt:j < xs.length*es+ys.length*es:=by
                   rcases List.getElem?_eq_some_iff.1 hj with ⟨h,_⟩
                   simp only [List.length_append] at h; omega
                  rw [List.getElem?_append_right (by omega),hfx] at hj
                  rw [if_pos (by simp only [List.size_toArray,hfu]; omega)] at h6
                  simp only [Nat.zero_add]
                  simp only [Nat.add_zero] at h6
                  rw [h6]; simpa using hj
              · right
                refine ⟨_,by rw [setTok_tok? hI.lenT (tok?_lt ht),if_pos rfl],by rw [htk],?_⟩
                simp [htk]
              · rw [setTok_tok? hI.lenT (tok?_lt ht),if_pos rfl] at ht1
                cases ht1
                exact ⟨by simp,fun _=>htk⟩
            · -- it grows in new memory
              obtain ⟨cap',arr,rest,j1,j2,j3,j4⟩:=new (some ⟨b,0,none⟩) xs.length cap (by omega) hsm xs vs rfl k1 h2 (fun dr=>by
               simp only [Builtin.firstCells]; exact Ad (Ah k1 h2) (CW rfl k2))
              have hL:=Le.moved (m:=ys.length) (cap:=cap') hIdr ht hpos (.cells arr e)
              have hI2:=Inv.moved (m:=ys.length) (cap:=cap') hIdr ht hpos arr e (fun T' hT=>by rw [hT] at hty; exact (Nat.eq_of_beq_eq_true hty).symm) (by omega) (by rw [hes']; exact j3)
              rw [hfront] at hL hI2
              refine ⟨_,_,j4,_,hI2,hdr.trans hL,?_,Esc.tok _ _ rfl rfl rfl⟩
              have hVL:=Ap (hdr.trans hL) _ _ (Bf k1 hu1)
              have hal:=Cd h2 hu2
              have hfl:=Ah hVL hal
              simp only [V]
              refine ⟨w.heap.size,0,cap',vs++us,by simp,⟨hes,by simpa using j1⟩,hal,⟨tok?_lt (s:=s) ht,fun t1 ht1=>?_⟩,fun _=>⟨hVL,fun j v hj=>?_,?_,rfl,?_,by simpa using j1,fun t1 ht1=>?_⟩⟩
              · rw [setTok_tok? hI.lenT (tok?_lt ht),if_pos rfl] at ht1; cases ht1; simp only; omega
              · simp only [World.cell?,Ax]
                have:arr.toList[j]? = some v:=by
                 rw [j2,List.getElem?_append_left (by rcases List.getElem?_eq_some_iff.1 hj with ⟨h,_⟩; exact h)]; exact hj
                simpa using this
              · right
                refine ⟨_,by rw [setTok_tok? hI.lenT (tok?_lt ht),if_pos rfl],by simp [G.moved],?_⟩
                simp [G.moved,hes']
              · simp [G.moved,hes']
              · rw [setTok_tok? hI.lenT (tok?_lt ht),if_pos rfl] at ht1
                cases ht1
                exact ⟨by simp,fun _=>by simp [G.moved,hes']⟩
          · cases h
end Go.Proofs.Ytfpoihibfajhlaa.Am

namespace Go.Proofs.Ytfpoihibfajhlaa.Am
variable {CR:Nat→Code→C→Prop} {P:Program} {g:G} {s s':St} {w:World}
theorem Ce {a:AV} {v:Value} {n:Nat} (hv:V g s w a v) (h:Bo a=some n):∃ k,v=.int k (n:Int):=by
 cases a<;>simp only [Bo] at h<;>try (cases h; done)
 rename_i k m
 split at h
 · rename_i h0
   cases h
   simp only [V] at hv
   exact ⟨k,by rw [hv]; congr 1; omega⟩
 · cases h
theorem DY (k:IntKind) (n:Int):(asIntOf (.int k n)).run P w=.ok (k,n) w:=rfl
/-! ### Bounds -/
theorem Ar {k:IntKind} {n y:Nat} {c:BoundsCode} (h:n≤y):(Instr.sliceBound (.int k (n:Int)) y c).run P w=.ok n w:=by
 simp only [Instr.sliceBound,Sem.run_bind,DY,Result.andThen_ok]
 rw [if_pos ⟨by omega,by omega⟩]
 simp
def VO (g:G) (s:St) (w:World):Option AV→Option Value→Prop
 | none,none=>True
 | some a,some v=>V g s w a v
 | _,_=>False
theorem Bs {isS:Bool} {len cap:Nat} (hc:len≤cap) {lo hi:Option AV} {lv hv:Option Value} (hl:VO g s w lo lv) (hh:VO g s w hi hv) {l h:Nat} (hb:Be len lo hi=some (l,h)) :
    (Instr.sliceBounds isS len cap lv hv none).run P w=.ok (l,h,cap) w∧l≤h∧h≤len:=by
 unfold Be at hb
 have key:∃ l' h',(match lo with | some v=>Bo v | none=>some 0)=some l'∧(match hi with | some v=>Bo v | none=>some len)=some h'∧l'≤h'∧h'≤len∧l'=l∧h'=h:=by
  have fin:∀ a b:Nat,(if a≤b∧b≤len then some (a,b) else none)=some (l,h)→a≤b∧b≤len∧a=l∧b=h:=by
   intro a b hab
   split at hab
   · rename_i hle; cases hab; exact ⟨hle.1,hle.2,rfl,rfl⟩
   · cases hab
  cases lo with
  | none =>
    cases hi with
    | none=>simp only at hb ⊢; exact ⟨_,_,rfl,rfl,fin _ _ hb⟩
    | some hi =>
      simp only at hb ⊢
      cases hy:Bo hi with
      | none=>rw [hy] at hb; simp at hb
      | some h'=>rw [hy] at hb; exact ⟨_,_,rfl,rfl,fin _ _ hb⟩
  | some lo =>
    cases hx:Bo lo with
    | none=>simp only [hx] at hb; simp at hb
    | some l' =>
      cases hi with
      | none=>simp only [hx] at hb ⊢; exact ⟨_,_,rfl,rfl,fin _ _ hb⟩
      | some hi =>
        simp only [hx] at hb ⊢
        cases hy:Bo hi with
        | none=>rw [hy] at hb; simp at hb
        | some h'=>rw [hy] at hb; exact ⟨_,_,rfl,rfl,fin _ _ hb⟩
 obtain ⟨l',h',h1,h2,h3,h4,rfl,rfl⟩:=key
 refine ⟨?_,h3,h4⟩
 have e1:∀ c:BoundsCode,(match hv with | some v=>Instr.sliceBound v cap c | none=>(pure len:Sem Nat)).run P w=.ok h' w:=by
  intro c
  cases hi<;>cases hv<;>simp only [VO] at hh
  · simp only at h2; cases h2; rfl
  · simp only at h2
    obtain ⟨k,rfl⟩:=Ce hh h2
    exact Ar (by omega)
 have e2:∀ c:BoundsCode,(match lv with | some v=>Instr.sliceBound v h' c | none=>(pure 0:Sem Nat)).run P w=.ok l' w:=by
  intro c
  cases lo<;>cases lv<;>simp only [VO] at hl
  · simp only at h1; cases h1; rfl
  · simp only at h1
    obtain ⟨k,rfl⟩:=Ce hl h1
    exact Ar (by omega)
 cases hv with
 | none =>
   have e1':=e1 .index
   simp only at e1'
   cases lv with
   | none =>
     have e2':=e2 .index
     simp only at e2'
     simp only [Sem.run_pure] at e1' e2'
     cases e1'; cases e2'
     simp [Instr.sliceBounds]
   | some v =>
     have e2':=e2 .sliceB
     simp only at e2'
     simp only [Sem.run_pure] at e1'
     cases e1'
     simp [Instr.sliceBounds,e2']
 | some u =>
   have e1':=e1 (if isS then .sliceAcap else .sliceAlen)
   simp only at e1'
   cases lv with
   | none =>
     have e2':=e2 .index
     simp only [Sem.run_pure] at e2'
     cases e2'
     simp [Instr.sliceBounds,e1']
   | some v =>
     have e2':=e2 .sliceB
     simp only at e2'
     simp [Instr.sliceBounds,e1',e2']
theorem GM {isS:Bool} {len cap:Nat} (hc:len≤cap) {lo hi:Option AV} {lv hv:Option Value} {m:AV} {mv:Value} (hl:VO g s w lo lv) (hh:VO g s w hi hv) (hm:V g s w m mv) {l h:Nat}
    (hb:Be len lo hi=some (l,h)) (hn:Bo m=some h) (hsome:hi.isSome=true) :
    (Instr.sliceBounds isS len cap lv hv (some mv)).run P w=.ok (l,h,h) w∧l≤h∧h≤len:=by
 unfold Be at hb
 obtain ⟨km,rfl⟩:=Ce hm hn
 cases hi with
 | none=>cases hsome
 | some hi =>
   cases hv with
   | none=>simp [VO] at hh
   | some u =>
     simp only [VO] at hh
     simp only at hb
     cases hy:Bo hi with
     | none=>rw [hy] at hb; simp at hb
     | some h' =>
       rw [hy] at hb
       obtain ⟨k,rfl⟩:=Ce hh hy
       cases lo with
       | none =>
         cases lv with
         | some _=>simp [VO] at hl
         | none =>
           simp only at hb
           split at hb
           · rename_i hle
             cases hb
             refine ⟨?_,hle.1,hle.2⟩
             simp only [Instr.sliceBounds,Sem.run_bind]
             rw [Ar (by omega)]
             simp only [Result.andThen_ok,Sem.run_bind]
             rw [Ar (Nat.le_refl _)]
             simp
           · cases hb
       | some lo =>
         cases lv with
         | none=>simp [VO] at hl
         | some v =>
           simp only [VO] at hl
           simp only at hb
           cases hx:Bo lo with
           | none=>rw [hx] at hb; simp at hb
           | some l' =>
             rw [hx] at hb
             obtain ⟨k2,rfl⟩:=Ce hl hx
             simp only at hb
             split at hb
             · rename_i hle
               cases hb
               refine ⟨?_,hle.1,hle.2⟩
               simp only [Instr.sliceBounds,Sem.run_bind]
               rw [Ar (by omega)]
               simp only [Result.andThen_ok,Sem.run_bind]
               rw [Ar (Nat.le_refl _)]
               simp only [Result.andThen_ok,Sem.run_bind]
               rw [Ar hle.1]
               simp
             · cases hb
theorem LX {isS:Bool} {len cap N c:Nat} {lo hi:Option AV} {lv hv:Option Value} {m:AV} {mv:Value} (hl:VO g s w lo lv) (hh:VO g s w hi hv) (hm:V g s w m mv) {l h:Nat}
    (hb:Be N lo hi=some (l,h)) (hn:Bo m=some c) (hsome:hi.isSome=true) (hhc:h≤c) (hcc:c≤cap) :
    (Instr.sliceBounds isS len cap lv hv (some mv)).run P w=.ok (l,h,c) w∧l≤h:=by
 unfold Be at hb
 obtain ⟨km,rfl⟩:=Ce hm hn
 cases hi with
 | none=>cases hsome
 | some hi =>
   cases hv with
   | none=>simp [VO] at hh
   | some u =>
     simp only [VO] at hh
     simp only at hb
     cases hy:Bo hi with
     | none=>rw [hy] at hb; simp at hb
     | some h' =>
       rw [hy] at hb
       obtain ⟨k,rfl⟩:=Ce hh hy
       cases lo with
       | none =>
         cases lv with
         | some _=>simp [VO] at hl
         | none =>
           simp only at hb
           split at hb
           · rename_i hle
             cases hb
             refine ⟨?_,hle.1⟩
             simp only [Instr.sliceBounds,Sem.run_bind]
             rw [Ar (by omega)]
             simp only [Result.andThen_ok,Sem.run_bind]
             rw [Ar hhc]
             simp
           · cases hb
       | some lo =>
         cases lv with
         | none=>simp [VO] at hl
         | some v =>
           simp only [VO] at hl
           simp only at hb
           cases hx:Bo lo with
           | none=>rw [hx] at hb; simp at hb
           | some l' =>
             rw [hx] at hb
             obtain ⟨k2,rfl⟩:=Ce hl hx
             simp only at hb
             split at hb
             · rename_i hle
               cases hb
               refine ⟨?_,hle.1⟩
               simp only [Instr.sliceBounds,Sem.run_bind]
               rw [Ar (by omega)]
               simp only [Result.andThen_ok,Sem.run_bind]
               rw [Ar hhc]
               simp only [Result.andThen_ok,Sem.run_bind]
               rw [Ar hle.1]
               simp
             · cases hb
/-! ### Slices cut -/
theorem GN {n:Nat}:∀ {l:List AV} (k:Nat),AY n l=true→AY n (l.take k)=true
 | _,0,_=>rfl
 | [],k+1,_=>rfl
 | a::l,k+1,h=>by
   simp only [AY,Bool.and_eq_true] at h
   simp only [List.take_succ_cons,AY,Bool.and_eq_true]
   exact ⟨h.1,GN k h.2⟩
theorem EC {n:Nat}:∀ {l:List AV} (k:Nat),AY n l=true→AY n (l.drop k)=true
 | _,0,h=>by simpa using h
 | [],k+1,_=>rfl
 | a::l,k+1,h=>by
   simp only [AY,Bool.and_eq_true] at h
   simpa using EC k h.2
theorem IJ {es:Nat}:∀ {xs:List AV} {vs:List Value} (k:Nat),VL g s w xs vs→AY es xs=true→flat (vs.take k)=(flat vs).take (k*es)
 | _,_,0,_,_=>by simp [flat]
 | [],vs,k+1,h,_=>by simp only [VL] at h; subst h; simp [flat]
 | a::l,vs,k+1,h,ha=>by
   simp only [VL] at h
   obtain ⟨v,r,rfl,h1,h2⟩:=h
   simp only [AY,Bool.and_eq_true] at ha
   have hsz:=Gp h1
   have hx:=Nat.eq_of_beq_eq_true ha.1.1
   have hl:v.cells.toList.length=es:=by rw [Array.length_toList]; omega
   simp only [List.take_succ_cons,B6]
   rw [IJ k h2 ha.2,Nat.add_mul,Nat.one_mul,Nat.add_comm,List.take_append,hl]
   rw [show es+k*es - es=k*es by omega,List.take_of_length_le (by omega:v.cells.toList.length≤es+k*es)]
theorem IK {es:Nat}:∀ {xs:List AV} {vs:List Value} (k:Nat),VL g s w xs vs→AY es xs=true→flat (vs.drop k)=(flat vs).drop (k*es)
 | _,_,0,_,_=>by simp
 | [],vs,k+1,h,_=>by simp only [VL] at h; subst h; simp [flat]
 | a::l,vs,k+1,h,ha=>by
   simp only [VL] at h
   obtain ⟨v,r,rfl,h1,h2⟩:=h
   simp only [AY,Bool.and_eq_true] at ha
   have hsz:=Gp h1
   have hx:=Nat.eq_of_beq_eq_true ha.1.1
   have hl:v.cells.toList.length=es:=by rw [Array.length_toList]; omega
   simp only [List.drop_succ_cons,B6]
   rw [IK k h2 ha.2,Nat.add_mul,Nat.one_mul,Nat.add_comm (k*es) es,← List.drop_drop,List.drop_left' hl]
theorem HH {es:Nat} {xs:List AV} {b o cap cap' l h:Nat} {vs:List Value} {m:Cap} (he:1≤es) (ha:AY es xs=true) (hV:VL g s w xs vs) (hc:BQ w b o (flat vs)) (hs:safe g b (o+xs.length*es))
    (hlh:l≤h) (hhl:h≤xs.length) (hcap:h - l≤cap') (hm:m=.full∧cap'=h - l∨m=.shut) {b' o':Nat} (hbo:b'=b∧(o'=o+l*es∨(cap'=0∧o'=o))) :
    V g s w (.sl es ((xs.drop l).take (h - l)) m) (.slice (some ⟨b',o',none⟩) (h - l) cap'):=by
 obtain ⟨rfl,hbo⟩:=hbo
 have hlen:((xs.drop l).take (h - l)).length=h - l:=by simp; omega
 have hmul1:l*es≤xs.length*es:=Nat.mul_le_mul_right _ (by omega)
 have hmul2:h*es≤xs.length*es:=Nat.mul_le_mul_right _ hhl
 have hmul3:h*es=l*es+(h - l)*es:=by rw [← Nat.add_mul]; congr 1; omega
 simp only [V]
 refine ⟨b',o',cap',(vs.drop l).take (h - l),by rw [hlen],⟨he,by omega⟩,GN _ (EC _ ha),by rcases hm with ⟨rfl,_⟩ | rfl<;>trivial,fun _=>⟨E0 _ (EP _ hV),?_,?_,?_⟩⟩
 · rw [IJ (h - l) (EP l hV) (EC l ha),IK l hV ha]
   rcases hbo with rfl | ⟨rfl,rfl⟩
   · exact D9 hc
   · have:(h - l)*es=0:=by rw [show h - l=0 by omega]; simp
     rw [this]; intro j v hj; simp at hj
 · have:safe g b' (o'+((xs.drop l).take (h - l)).length*es):=by
    rw [hlen]
    rcases hs with hs | hs
    · exact .inl hs
    · right
      rcases hbo with rfl | ⟨rfl,rfl⟩
      · omega
      · rw [show h - l=0 by omega]; omega
   rcases hm with ⟨rfl,_⟩ | rfl<;>exact this
 · rcases hm with ⟨rfl,hm⟩ | rfl
   · simp only [Fv]; rw [hlen]; exact hm
   · simp only [Fv]; rw [hlen]; omega
theorem Jj {id es off n o cap l h:Nat} {x:Nat×Bool} (hid:id < s.nb) (hz:1≤es∧n≤cap) (hx1:x.1≤off+cap*es∧(x.2=true→off+cap*es=x.1)) (hx2:0 < cap→o=off) (hx3:o≤off) (hx4:x.2=false→∃ arr T fr,w.heap[g.bx id]? = some (.cells arr T fr)∧(0 < cap→off+cap*es≤arr.size)) (hlh:l≤h) (hh:h≤cap) :
    V g s w (.bl id es (off+l*es) (h - l) x) (.slice (if cap=l then some ⟨g.bx id,o,none⟩ else (some (⟨g.bx id,o,none⟩:Addr)).map (·.add (l*es))) (h - l) (cap - l)):=by
 simp only [V]
 have hm:l*es+(cap - l)*es=cap*es:=by rw [← Nat.add_mul]; congr 1; omega
 by_cases hc:cap=l
 · rw [if_pos hc]
   refine ⟨o,cap - l,rfl,hid,⟨hz.1,by omega⟩,⟨by omega,fun y=>by have:=hx1.2 y; omega⟩,fun h0=>by omega,by omega,fun hq=>?_⟩
   obtain ⟨arr,T,fr,k1,_⟩:=hx4 hq
   exact ⟨arr,T,fr,k1,fun h0=>by omega⟩
 · rw [if_neg hc]
   refine ⟨o+l*es,cap - l,by simp [Ck],hid,⟨hz.1,by omega⟩,⟨by omega,fun y=>by have:=hx1.2 y; omega⟩,fun h0=>by rw [hx2 (by omega)],by omega,fun hq=>?_⟩
   obtain ⟨arr,T,fr,k1,k2⟩:=hx4 hq
   exact ⟨arr,T,fr,k1,fun h0=>by have:=k2 (by omega); omega⟩
theorem Qe {t e es len:Nat} (hI:Inv CR g s w) (hu:P.underlying t=some (.array len e)) (hn:A5 P e=some es) (hes:1≤es) {id off:Nat} {xv:Value} {lo hi:Option AV} {lv hv:Option Value}
    (hx:V g s w (.p id off) xv) (hlo:VO g s w lo lv) (hhi:VO g s w hi hv) {l h:Nat} (hb:Be len lo hi=some (l,h)) :
    ∃ v,(Instr.sliceAt t xv lv hv none).run P w=.ok v w∧V g s w (.bl id es (off+l*es) (h - l) (off+len*es,true)) v:=by
 simp only [V] at hx
 obtain ⟨hid,rfl⟩:=hx
 obtain ⟨e1,e2,e3⟩:=Bs (P:=P) (isS:=false) (Nat.le_refl len) hlo hhi hb
 have:=Jj (g:=g) (w:=w) (es:=es) (off:=off) (n:=len) (o:=off) (cap:=len) (l:=l) (h:=h) (x:=(off+len*es,true)) hid ⟨hes,Nat.le_refl _⟩ ⟨Nat.le_refl _,fun _=>rfl⟩ (fun _=>rfl) (Nat.le_refl _) (fun hq=>by cases hq) (by omega) (by omega)
 refine ⟨_,?_,this⟩
 simp only [Instr.sliceAt,Sem.run_bind,AA hu,Result.andThen_ok,Instr.sureAddr,Sem.run_pure,e1,Ae hn]
 by_cases hc:len=l<;>simp [hc]
theorem Cv {t e es:Nat} (hu:P.underlying t=some (.slice e)) (hn:A5 P e=some es) {b:Option Addr} {len cap l h m:Nat} {lv hv mv:Option Value}
    (hb:(Instr.sliceBounds true len cap lv hv mv).run P w=.ok (l,h,m) w) :
    (Instr.sliceAt t (.slice b len cap) lv hv mv).run P w=.ok (.slice (if m=l then b else b.map (·.add (l*es))) (h - l) (m - l)) w:=by
 simp [Instr.sliceAt,Instr.slice,AA hu,hb,Ae hn]
theorem Jk {t e es : Nat} {pop:Bool} (hI:Inv CR g s w) (hu:P.underlying t=some (.slice e)) (hn:A5 P e=some es) {x r:AV} {xv:Value} {lo hi mx:Option AV} {lv hv mv:Option Value}
    (hx:V g s w x xv) (hlo:VO g s w lo lv) (hhi:VO g s w hi hv) (hmx:VO g s w mx mv) (h:Br s pop es x lo hi mx=some (r,s')) (h3:mx.isSome=true→hi.isSome=true) (hnw:∀ f e xs,x≠.ws f e xs) :
    ∃ v,(Instr.sliceAt t xv lv hv mv).run P w=.ok v w∧Good CR g s w s' r v w:=by
 cases x<;>simp only [Br] at h<;>try (cases h; done)
 case ws f e xs=>exact absurd rfl (hnw f e xs)
 case bl id e' off n x =>
  split at h<;>try (cases h; done)
  rename_i l hh hb
  by_cases hes:es=e'
  case neg=>rw [if_neg hes] at hb; cases hb
  subst hes
  rw [if_pos rfl] at hb
  simp only [V] at hx
  obtain ⟨o,cap,rfl,hid,hz,hx1,hx2,hx3,hx4⟩:=hx
  have hcb:LM es off n x≤cap:=by
   unfold LM
   refine Nat.max_le.2 ⟨hz.2,?_⟩
   refine Nat.le_of_mul_le_mul_right (c:=es) ?_ (by omega)
   have:=Nat.div_mul_le_self (x.1 - off) es
   omega
  cases mx with
  | none =>
    cases h
    cases mv with
    | some _=>simp [VO] at hmx
    | none =>
      cases hi with
      | none =>
        obtain ⟨e1,e2,e3⟩:=Bs (P:=P) (isS:=true) hz.2 hlo hhi hb
        exact ⟨_,Cv hu hn e1,AH hI (Jj hid hz hx1 hx2 hx3 hx4 (by omega) (by omega))⟩
      | some hi =>
        obtain ⟨e1,e2,e3⟩:=Bs (P:=P) (isS:=true) hcb hlo hhi hb
        refine ⟨_,Cv hu hn (b:=some ⟨g.bx id,o,none⟩) (len:=n) (cap:=cap) (l:=l) (h:=hh) (m:=cap) ?_,AH hI (Jj hid hz hx1 hx2 hx3 hx4 (by omega) (by omega))⟩
        cases hv with
        | none=>simp [VO] at hhi
        | some u=>exact e1
  | some mm =>
    cases mv with
    | none=>simp [VO] at hmx
    | some mmv =>
      simp only [VO] at hmx
      simp only at h
      split at h<;>try (cases h; done)
      rename_i c hnat
      split at h<;>try (cases h; done)
      rename_i hc
      cases h
      cases hi with
      | none=>cases h3 rfl
      | some hi =>
        obtain ⟨e1,e2⟩:=LX (P:=P) (isS:=true) (len:=n) (cap:=cap) hlo hhi hmx hb hnat rfl hc.1 (by omega)
        refine ⟨_,Cv hu hn e1,AH hI ?_⟩
        exact Jj (n:=0) hid ⟨hz.1,Nat.zero_le _⟩ ⟨Nat.le_refl _,fun _=>rfl⟩ (fun h0=>hx2 (by omega)) hx3 (fun hq=>by cases hq) e2 hc.1
 case wz =>
  simp only [V] at hx; obtain ⟨ba,rfl⟩:=hx
  cases hb:Be 0 lo hi with
  | none=>simp [hb] at h
  | some p =>
    obtain ⟨l,hh⟩:=p
    simp only [hb] at h
    cases mx with
    | none =>
      cases mv with
      | some _=>simp [VO] at hmx
      | none =>
        simp only at h; cases h
        obtain ⟨e1,e2,e3⟩:=Bs (P:=P) (isS:=true) (Nat.le_refl 0) hlo hhi hb
        refine ⟨_,Cv hu hn e1,AH hI ?_⟩
        have:l=0:=by omega
        have:hh=0:=by omega
        subst_vars
        simp [V]
    | some mm =>
      cases mv with
      | none=>simp [VO] at hmx
      | some mmv =>
        simp only [VO] at hmx
        simp only at h
        cases hnat:Bo mm with
        | none=>simp [hnat] at h
        | some c =>
          cases c with
          | succ c=>simp [hnat] at h
          | zero =>
            simp only [hnat] at h; cases h
            have hle:l≤hh∧hh≤0:=(Bs (P:=P) (isS:=true) (w:=w) (Nat.le_refl 0) hlo hhi hb).2
            have:l=0:=by omega
            have:hh=0:=by omega
            subst_vars
            obtain ⟨e1,e2,e3⟩:=GM (P:=P) (isS:=true) (Nat.le_refl 0) hlo hhi hmx hb hnat (h3 rfl)
            refine ⟨_,Cv hu hn e1,AH hI ?_⟩
            simp [V]
 case nsl =>
  simp only [V] at hx; subst hx
  cases hb:Be 0 lo hi with
  | none=>simp [hb] at h
  | some p =>
    obtain ⟨l,hh⟩:=p
    simp only [hb] at h
    cases mx with
    | none =>
      cases mv with
      | some _=>simp [VO] at hmx
      | none =>
        simp only at h; cases h
        obtain ⟨e1,e2,e3⟩:=Bs (P:=P) (isS:=true) (Nat.le_refl 0) hlo hhi hb
        refine ⟨_,Cv hu hn e1,AH hI ?_⟩
        have:l=0:=by omega
        have:hh=0:=by omega
        subst_vars
        simp [V]
    | some mm =>
      cases mv with
      | none=>simp [VO] at hmx
      | some mmv =>
        simp only [VO] at hmx
        simp only at h
        cases hnat:Bo mm with
        | none=>simp [hnat] at h
        | some c =>
          cases c with
          | succ c=>simp [hnat] at h
          | zero =>
            simp only [hnat] at h; cases h
            have hle:l≤hh∧hh≤0:=(Bs (P:=P) (isS:=true) (w:=w) (Nat.le_refl 0) hlo hhi hb).2
            have:l=0:=by omega
            have:hh=0:=by omega
            subst_vars
            obtain ⟨e1,e2,e3⟩:=GM (P:=P) (isS:=true) (Nat.le_refl 0) hlo hhi hmx hb hnat (h3 rfl)
            refine ⟨_,Cv hu hn e1,AH hI ?_⟩
            simp [V]
 case sl es0 xs m =>
  by_cases hes:es=es0
  · subst hes
    rw [if_pos rfl] at h
    have hx0:=hx
    simp only [V] at hx
    obtain ⟨b,o,cap,vs,rfl,h1,h2,h4,h5⟩:=hx
    cases hb:Be xs.length lo hi with
    | none=>simp [hb] at h
    | some p =>
      obtain ⟨l,hh⟩:=p
      simp only [hb] at h
      obtain ⟨e1,e2,e3⟩:=Bs (P:=P) (isS:=true) h1.2 hlo hhi hb
      cases mx with
      | some mm =>
        cases mv with
        | none=>simp [VO] at hmx
        | some mmv =>
          simp only [VO] at hmx
          simp only at h
          cases hnat:Bo mm with
          | none=>simp [hnat] at h
          | some c =>
            simp only [hnat] at h
            by_cases hc:c=hh
            · subst hc
              rw [if_pos rfl] at h
              cases hp:pub s (.sl es xs m) with
              | none=>simp [hp] at h
              | some q =>
                obtain ⟨q1,s1⟩:=q
                simp only [hp] at h
                cases h
                obtain ⟨f1,f2,f3⟩:=GM (P:=P) (isS:=true) h1.2 hlo hhi hmx hb hnat (h3 rfl)
                refine ⟨_,Cv hu hn f1,?_⟩
                obtain ⟨g1,hI1,hL1,hV1,hE1⟩:=FL hI hx0 hp
                refine ⟨g1,hI1,hL1,?_,hE1⟩
                have hsafe:∃ vs',VL g1 s' w xs vs'∧BQ w b o (flat vs')∧safe g1 b (o+xs.length*es):=by
                 rcases Kg hp with ⟨es',xs',k,t',ha,ht,rfl,rfl⟩ | ⟨rfl,rfl,hne⟩
                 · cases ha
                   simp only [V] at hV1
                   obtain ⟨b',o',cap',vs',ha,_,_,_,hv'⟩:=hV1
                   simp only [Value.slice.injEq,Option.some.injEq,Addr.mk.injEq] at ha
                   obtain ⟨⟨rfl,rfl,_⟩,_,rfl⟩:=ha
                   obtain ⟨k1,k2,k3,_⟩:=hv' rfl
                   exact ⟨vs',k1,k2,k3⟩
                 · cases m with
                   | tok k u=>exact absurd rfl (hne _ _ _ _)
                   | full=>obtain ⟨k1,k2,k3,_⟩:=h5 rfl; exact ⟨vs,Ap hL1 _ _ k1,k2,IR hL1 k3⟩
                   | shut=>obtain ⟨k1,k2,k3,_⟩:=h5 rfl; exact ⟨vs,Ap hL1 _ _ k1,k2,IR hL1 k3⟩
                obtain ⟨vs',k1,k2,k3⟩:=hsafe
                by_cases hcl:c=l
                · subst hcl
                  rw [if_pos rfl]
                  exact HH (cap:=cap) h1.1 h2 k1 k2 k3 e2 e3 (Nat.le_refl _) (.inl ⟨rfl,rfl⟩) ⟨rfl,.inr ⟨by omega,rfl⟩⟩
                · rw [if_neg hcl]
                  simp only [Option.map_some,Ck]
                  exact HH (cap:=cap) h1.1 h2 k1 k2 k3 e2 e3 (Nat.le_refl _) (.inl ⟨rfl,rfl⟩) ⟨rfl,.inl rfl⟩
            · rw [if_neg hc] at h; cases h
      | none =>
        cases mv with
        | some _=>simp [VO] at hmx
        | none =>
          simp only at h
          have hrun:=Cv (P:=P) (w:=w) hu hn (b:=some ⟨b,o,none⟩) e1
          have hval:∃ b' o',(if cap=l then (some ⟨b,o,none⟩:Option Addr) else (some ⟨b,o,none⟩:Option Addr).map (·.add (l*es)))=some ⟨b',o',none⟩∧(b'=b∧(o'=o+l*es∨(cap - l=0∧o'=o))):=by
           by_cases hcl:cap=l
           · rw [if_pos hcl]; exact ⟨b,o,rfl,rfl,.inr ⟨by omega,rfl⟩⟩
           · rw [if_neg hcl]; exact ⟨b,_,by rw [Option.map_some,Ck],rfl,.inl rfl⟩
          obtain ⟨b',o',hv1,hv2⟩:=hval
          rw [hv1] at hrun
          by_cases hwhole:l=0∧hh=xs.length
          · rw [if_pos hwhole] at h
            cases h
            obtain ⟨rfl,rfl⟩:=hwhole
            refine ⟨_,hrun,AH hI ?_⟩
            have:b'=b∧o'=o:=by
             obtain ⟨h6,h7⟩:=hv2
             rcases h7 with h7 | h7<;>omega
            obtain ⟨rfl,rfl⟩:=this
            simpa using hx0
          · rw [if_neg hwhole] at h
            cases m with
            | shut =>
              simp only at h; cases h
              obtain ⟨k1,k2,k3,_⟩:=h5 rfl
              exact ⟨_,hrun,AH hI (HH (cap:=cap) h1.1 h2 k1 k2 k3 e2 e3 (by omega) (.inr rfl) hv2)⟩
            | full =>
              simp only at h
              obtain ⟨k1,k2,k3,k4⟩:=h5 rfl
              simp only [Fv] at k4
              by_cases hf:hh=xs.length
              · rw [if_pos hf] at h; cases h
                exact ⟨_,hrun,AH hI (HH (cap:=cap) h1.1 h2 k1 k2 k3 e2 e3 (by omega) (.inl ⟨rfl,by omega⟩) hv2)⟩
              · rw [if_neg hf] at h; cases h
                exact ⟨_,hrun,AH hI (HH (cap:=cap) h1.1 h2 k1 k2 k3 e2 e3 (by omega) (.inr rfl) hv2)⟩
            | tok k v =>
              simp only at h
              cases ht:s.tok? k with
              | none=>simp [ht] at h
              | some t' =>
                simp only [ht] at h
                by_cases hver:t'.ver=v
                · rw [if_pos hver] at h
                  have hok:s.ok (.tok k v)=true:=EL.2 ⟨t',ht,hver⟩
                  obtain ⟨k1,k2,k3,k4⟩:=h5 hok
                  obtain ⟨rfl,hes',hcap,k5⟩:=k4
                  obtain ⟨k6,k7⟩:=k5 t' ht
                  split at h
                  · rename_i hpop
                    cases h
                    simp only [Bool.and_eq_true] at hpop
                    obtain ⟨⟨⟨_,hl0⟩,hfr⟩,hpb⟩:=hpop
                    have hl0:=Nat.eq_of_beq_eq_true hl0
                    have hfr:=Nat.eq_of_beq_eq_true hfr
                    have hpb:=Nat.le_of_ble_eq_true hpb
                    subst hl0
                    have htk:=k7 hfr
                    have hL:=Le.pop (n:=hh) hI ht
                    have hI2:=Inv.pop (n:=hh) hI ht (by omega) hpb
                    rw [hver] at hL hI2
                    refine ⟨_,hrun,g,hI2,hL,?_,Esc.tok _ _ rfl rfl rfl⟩
                    have hbo:b'=b∧o'=0:=by
                     obtain ⟨h6,h7⟩:=hv2
                     rcases h7 with h7 | h7<;>omega
                    obtain ⟨rfl,rfl⟩:=hbo
                    have hlen:((xs.drop 0).take (hh - 0)).length=hh - 0:=by simp; omega
                    simp only [V]
                    refine ⟨b',0,cap - 0,(vs.drop 0).take (hh - 0),by rw [hlen],⟨h1.1,by rw [hlen]; omega⟩,GN _ (EC _ h2),⟨tok?_lt (s:=s) ht,fun t1 ht1=>?_⟩,fun _ =>
                     ⟨Ap hL _ _ (E0 _ (EP _ k1)),?_,?_,rfl,hes',by rw [hlen]; omega,fun t1 ht1=>?_⟩⟩
                    · rw [setTok_tok? hI.lenT (tok?_lt ht),if_pos rfl] at ht1; cases ht1; exact Nat.le_refl _
                    · rw [IJ _ (EP _ k1) (EC _ h2)]
                      have:=D9 (off:=0) (n:=(hh - 0)*es) k2
                      simpa using this
                    · right
                      refine ⟨_,by rw [setTok_tok? hI.lenT (tok?_lt ht),if_pos rfl],by rw [htk],?_⟩
                      rw [hlen,htk]; simp
                    · rw [setTok_tok? hI.lenT (tok?_lt ht),if_pos rfl] at ht1
                      cases ht1
                      rw [hlen]
                      exact ⟨by simp,fun _=>by simpa using htk⟩
                  · cases h
                    have hp:pub s (.sl es xs (.tok k v))=some (.sl es xs .shut,s.setTok k { t' with pub:=max t'.pub xs.length }):=by
                     simp only [pub,ht]; rw [if_pos hver]
                    obtain ⟨g1,hI1,hL1,hV1,hE1⟩:=FL hI hx0 hp
                    refine ⟨_,hrun,g1,hI1,hL1,?_,hE1⟩
                    simp only [V] at hV1
                    obtain ⟨b2,o2,cap2,vs',ha,_,_,_,hv'⟩:=hV1
                    simp only [Value.slice.injEq,Option.some.injEq,Addr.mk.injEq] at ha
                    obtain ⟨⟨rfl,rfl,_⟩,_,rfl⟩:=ha
                    obtain ⟨j1,j2,j3,_⟩:=hv' rfl
                    exact HH (cap:=cap) h1.1 h2 j1 j2 j3 e2 e3 (by omega) (.inr rfl) hv2
                · rw [if_neg hver] at h; cases h
  · rw [if_neg hes] at h; simp at h
theorem Good.weak {CR:Nat→Code→C→Prop} {g:G} {s s':St} {w w':World} {r r':AV} {v:Value} (h:Good CR g s w s' r v w') (hw:∀ g s w,V g s w r v→V g s w r' v):Good CR g s w s' r' v w':=by
 obtain ⟨g',h1,h2,h3,h4⟩:=h
 exact ⟨g',h1,h2,hw _ _ _ h3,h4⟩
theorem slc_ok {t e es:Nat} {pop:Bool} (hI:Inv CR g s w) (hu:P.underlying t=some (.slice e)) (hn:A5 P e=some es) {x r:AV} {xv:Value} {lo hi mx:Option AV} {lv hv mv:Option Value}
    (hx:V g s w x xv) (hlo:VO g s w lo lv) (hhi:VO g s w hi hv) (hmx:VO g s w mx mv) (h:Br s pop es x lo hi mx=some (r,s')) (h3:mx.isSome=true→hi.isSome=true) :
    ∃ v,(Instr.sliceAt t xv lv hv mv).run P w=.ok v w∧Good CR g s w s' r v w:=by
 by_cases hw:∃ f e xs,x=.ws f e xs
 case neg=>exact Jk hI hu hn hx hlo hhi hmx h h3 fun f e xs he=>hw ⟨f,e,xs,he⟩
 obtain ⟨f,e0,xs,rfl⟩:=hw
 simp only [Br] at h
 by_cases hes:es=e0
 case neg=>rw [if_neg hes] at h; cases h
 subst hes
 rw [if_pos rfl] at h
 cases hb:Be xs.length lo hi with
 | none=>simp [hb] at h
 | some p =>
   obtain ⟨l,hh⟩:=p
   simp only [hb] at h
   rcases V_ws.1 hx with ⟨hx2,rfl⟩ | ⟨hx2,rfl⟩ | hx2
   · -- nil
     have hle:l≤hh∧hh≤0:=(Bs (P:=P) (isS:=true) (w:=w) (Nat.le_refl 0) hlo hhi hb).2
     have hl0:l=0:=by omega
     have hh0:hh=0:=by omega
     subst hl0; subst hh0
     have key:Br s pop es .nsl lo hi mx=some (.nsl,s)∧∃ f',r=.ws f' es []∧s'=s:=by
      have hb0:Be 0 lo hi=some (0,0):=hb
      simp only [Br,hb0]
      cases mx with
      | none =>
        simp only [List.length_nil,and_self,if_true] at h
        cases h
        exact ⟨rfl,_,rfl,rfl⟩
      | some mm =>
        simp only at h ⊢
        cases hnat:Bo mm with
        | none=>simp [hnat] at h
        | some c =>
          simp only [hnat] at h ⊢
          split at h
          · rename_i hc
            subst hc
            cases h
            exact ⟨rfl,true,by simp,rfl⟩
          · cases h
     obtain ⟨k1,f',rfl,rfl⟩:=key
     obtain ⟨v,e1,e2⟩:=Jk (P:=P) hI hu hn hx2 hlo hhi hmx k1 h3 (fun _ _ _ hh=>by cases hh)
     exact ⟨v,e1,e2.weak fun _ _ _ hv=>IS hv⟩
   · -- no room
     have hle:l≤hh∧hh≤0:=(Bs (P:=P) (isS:=true) (w:=w) (Nat.le_refl 0) hlo hhi hb).2
     have hl0:l=0:=by omega
     have hh0:hh=0:=by omega
     subst hl0; subst hh0
     have key:Br s pop es .wz lo hi mx=some (.wz,s)∧∃ f',r=.ws f' es []∧s'=s:=by
      have hb0:Be 0 lo hi=some (0,0):=hb
      simp only [Br,hb0]
      cases mx with
      | none =>
        simp only [List.length_nil,and_self,if_true] at h
        cases h
        exact ⟨rfl,_,rfl,rfl⟩
      | some mm =>
        simp only at h ⊢
        cases hnat:Bo mm with
        | none=>simp [hnat] at h
        | some c =>
          simp only [hnat] at h ⊢
          split at h
          · rename_i hc
            subst hc
            cases h
            exact ⟨rfl,true,by simp,rfl⟩
          · cases h
     obtain ⟨k1,f',rfl,rfl⟩:=key
     obtain ⟨v,e1,e2⟩:=Jk (P:=P) hI hu hn hx2 hlo hhi hmx k1 h3 (fun _ _ _ hh=>by cases hh)
     exact ⟨v,e1,e2.weak fun _ _ _ hv=>MG hv⟩
   · -- a slice
     have hp:pub s (.sl es xs (capM f))=some (.sl es xs (capM f),s):=by cases f<;>rfl
     have key:∃ m',Br s pop es (.sl es xs (capM f)) lo hi mx=some (.sl es ((xs.drop l).take (hh - l)) m',s)∧s'=s∧∃ f',r=.ws f' es ((xs.drop l).take (hh - l))∧(m'=capM f'∨(m'=.full∧f'=false)):=by
      simp only [Br,if_true,hb]
      cases mx with
      | none =>
        simp only at h ⊢
        split at h
        · rename_i hc
          obtain ⟨rfl,rfl⟩:=hc
          cases h
          refine ⟨capM f,by simp,rfl,f,by simp,.inl rfl⟩
        · rename_i hc
          cases h
          rw [if_neg hc]
          cases f with
          | true =>
            simp only [capM,if_true]
            split
            · exact ⟨.full,rfl,trivial,false,rfl,.inr ⟨rfl,rfl⟩⟩
            · exact ⟨.shut,rfl,trivial,false,rfl,.inl rfl⟩
          | false=>exact ⟨.shut,rfl,rfl,false,rfl,.inl rfl⟩
      | some mm =>
        simp only at h ⊢
        cases hnat:Bo mm with
        | none=>simp [hnat] at h
        | some c =>
          simp only [hnat] at h ⊢
          split at h
          · rename_i hc
            subst hc
            cases h
            rw [if_pos rfl,hp]
            exact ⟨.full,rfl,rfl,true,rfl,.inl rfl⟩
          · cases h
     obtain ⟨m',k1,rfl,f',rfl,k2⟩:=key
     obtain ⟨v,e1,e2⟩:=Jk (P:=P) hI hu hn hx2 hlo hhi hmx k1 h3 (fun _ _ _ hh=>by cases hh)
     exact ⟨v,e1,e2.weak fun _ _ _ hv=>MF k2 hv⟩
end Go.Proofs.Ytfpoihibfajhlaa.Am

namespace Go.Proofs.Ytfpoihibfajhlaa.Am
variable {CR:Nat→Code→C→Prop} {P:Program} {g:G} {s s':St} {w:World}
/-! ### Fields and indexes -/
def JD (n:Nat):AV→Option AV
 | .p id o=>some (.p id (o+n))
 | .ep l o m=>some (.ep l (o+n) m)
 | _=>none
theorem fa_ok {t f n:Nat} {fs:Array Field} {fl:Field} (hu:P.underlying t=some (.struct fs)) (hf:fs[f]? = some fl) (hn:A5 P fl.type=some (n+1)) {x r:AV} {xv:Value} (hx:V g s w x xv)
    (h:JD fl.offset x=some r) :
    ∃ v,(Instr.fieldAt t xv f).run P w=.ok v w∧V g s w r v:=by
 have run:∀ b o:Nat,(Instr.fieldAt t (.pointer (some ⟨b,o,none⟩)) f).run P w=.ok (.pointer (some ⟨b,o+fl.offset,none⟩)) w:=by
  intro b o
  simp [Instr.fieldAt,AA hu,hf,Instr.sureAddr,fieldPlace,Ae hn,Ck]
 cases x<;>simp only [JD] at h<;>try (cases h; done)
 case p id o =>
  cases h
  simp only [V] at hx
  obtain ⟨h1,rfl⟩:=hx
  exact ⟨_,run _ _,by simp only [V]; exact ⟨h1,trivial⟩⟩
 case ep l o m =>
  cases h
  simp only [V] at hx
  obtain ⟨b,o',cs,rfl,h1,h2⟩:=hx
  exact ⟨_,run _ _,by simp only [V]; exact ⟨b,o',cs,by rw [Nat.add_assoc],h1,h2⟩⟩
theorem MC {t n:Nat} {agg:Bool} (ha:Hb P t=some agg) (hn:A5 P t=some n) {l m:List AV} {cs:List Value} {off:Nat} {r:AV} (hV:VL g s w l cs) (hc:cut l off n=some m) (hr:scal agg m=some r) :
    ∃ v,(part t cs.toArray off).run P w=.ok v w∧V g s w r v:=by
 obtain ⟨h1,h2,h3⟩:=Kf hV hc
 cases agg with
 | true =>
   simp only [scal] at hr
   cases hr
   refine ⟨.agg ((cs.drop off).take n).toArray,?_,by simp only [V]; exact ⟨_,h1,rfl⟩⟩
   simp only [part,Sem.run_bind,Ge ha,Result.andThen_ok,if_true,Ae hn,Sem.run_pure]
   congr 2
   apply Array.toList_inj.1
   simp
 | false =>
   match m,hr with
   | [a],hr =>
     simp only [scal] at hr
     cases hr
     simp only [VL] at h1
     obtain ⟨v,r',he,hv,rfl⟩:=h1
     refine ⟨v,?_,hv⟩
     have hn1:n=1:=by simpa using h2.symm
     subst hn1
     have h0:cs[off]? = some v:=by
      have:((cs.drop off).take 1)[0]? = some v:=by rw [he]; rfl
      simpa using this
     simp [part,Ge ha,h0]
theorem fld_ok {t f n:Nat} {agg:Bool} {fs:Array Field} {fl:Field} (hu:P.underlying t=some (.struct fs)) (hf:fs[f]? = some fl) (ha:Hb P fl.type=some agg) (hn:A5 P fl.type=some n) {l m:List AV} {xv:Value} {r:AV}
    (hx:V g s w (.agg l) xv) (hc:cut l fl.offset n=some m) (hr:scal agg m=some r):∃ v,(Instr.field t xv f).run P w=.ok v w∧V g s w r v:=by
 simp only [V] at hx
 obtain ⟨vs,h1,rfl⟩:=hx
 obtain ⟨v,e1,e2⟩:=MC ha hn h1 hc hr
 exact ⟨v,by simp [Instr.field,AA hu,hf,asAgg,e1],e2⟩
theorem ia_ok {t e es n:Nat} (hu:P.underlying t=some (.slice e)) (hn:A5 P e=some es) {xs:List AV} {m:Cap} {xv iv:Value} {i v:AV} (hx:V g s w (.sl es xs m) xv) (hi:V g s w i iv) (hin:Bo i=some n) (hv:xs[n]? = some v) :
    ∃ r,(Instr.indexAt t xv iv).run P w=.ok r w∧V g s w (.ep v.cells 0 m) r:=by
 obtain ⟨k,rfl⟩:=Ce hi hin
 simp only [V] at hx
 obtain ⟨b,o,cap,vs,rfl,h1,h2,h3,h4⟩:=hx
 have hlt:n < xs.length:=by rcases List.getElem?_eq_some_iff.1 hv with ⟨h,_⟩; exact h
 refine ⟨.pointer (some ⟨b,o+n*es,none⟩),?_,?_⟩
 · have hm:(match (TypeDesc.slice e:TypeDesc) with | .array ..=>true | _=>false)=false:=rfl
   simp only [Instr.indexAt,Sem.run_bind,DY,Result.andThen_ok,AA hu,Sem.run_pure]
   rw [if_pos ⟨by omega,by omega⟩]
   simp [Ae hn,Ck]
 · simp only [V]
   by_cases hok:s.ok m=true
   · obtain ⟨k1,k2,k3,k4⟩:=h4 hok
     obtain ⟨u,hu1,hu2⟩:=L4 k1 hv
     have hel:flat (vs.drop n)=u.cells.toList++flat (vs.drop (n+1)):=by
      rw [← B6]
      congr 1
      rcases List.getElem?_eq_some_iff.1 hu1 with ⟨hl,rfl⟩
      exact List.drop_eq_getElem_cons hl
     have hlen:u.cells.toList.length=es:=by
      have h5:=Gp hu2
      have:∀ {l:List AV} {j:Nat} {a:AV},AY es l=true→l[j]? = some a→a.cells.length=es:=by
       intro l
       induction l with
       | nil=>intro j a _ hj; simp at hj
       | cons x l ih =>
         intro j a hal hj
         simp only [AY,Bool.and_eq_true] at hal
         cases j with
         | zero=>simp at hj; subst hj; exact Nat.eq_of_beq_eq_true hal.1.1
         | succ j=>exact ih hal.2 (by simpa using hj)
      rw [Array.length_toList,h5,this h2 hv]
     refine ⟨b,o+n*es,u.cells.toList,rfl,h3,fun _=>⟨B8 hu2,?_,?_⟩⟩
     · intro j x hj
       have hlt2:j < u.cells.toList.length:=by rcases List.getElem?_eq_some_iff.1 hj with ⟨h,_⟩; exact h
       have h6:(flat vs)[n*es+j]? = some x:=by
        have:(flat (vs.drop n))[j]? = some x:=by rw [hel,List.getElem?_append_left hlt2]; exact hj
        rw [IK n k1 h2,List.getElem?_drop] at this
        exact this
       have:=k2 (n*es+j) x h6
       rw [show o+n*es+j=o+(n*es+j) by omega]; exact this
     · rw [hlen]
       have hmul:n*es+es≤xs.length*es:=by
        have:=Nat.mul_le_mul_right es (show n+1≤xs.length from hlt)
        rw [Nat.add_mul] at this; omega
       cases m with
       | full=>rcases k3 with k3 | k3; exact .inl k3; exact .inr (by omega)
       | shut=>rcases k3 with k3 | k3; exact .inl k3; exact .inr (by omega)
       | tok k u =>
         rcases k3 with (k3 | k3) | ⟨t1,ht1,hb,hle⟩
         · exact .inl (.inl k3)
         · exact .inl (.inr (by omega))
         · exact .inr ⟨t1,ht1,hb,by omega⟩
   · exact ⟨b,o+n*es,[],rfl,h3,fun h=>absurd h hok⟩
theorem iaB_ok {t e es n id off m:Nat} {y:Nat×Bool} (hu:P.underlying t=some (.slice e)) (hn:A5 P e=some es) {xv iv:Value} {i:AV} (hx:V g s w (.bl id es off m y) xv) (hi:V g s w i iv) (hin:Bo i=some n) (hlt:n < m) :
    ∃ r,(Instr.indexAt t xv iv).run P w=.ok r w∧V g s w (.p id (off+n*es)) r:=by
 obtain ⟨k,rfl⟩:=Ce hi hin
 simp only [V] at hx
 obtain ⟨o,cap,rfl,hid,hz,_,hoff,_⟩:=hx
 rw [hoff (by omega)]
 refine ⟨.pointer (some ⟨g.bx id,off+n*es,none⟩),?_,by simp only [V]; exact ⟨hid,trivial⟩⟩
 have hm:(match (TypeDesc.slice e:TypeDesc) with | .array ..=>true | _=>false)=false:=rfl
 simp only [Instr.indexAt,Sem.run_bind,DY,Result.andThen_ok,AA hu,Sem.run_pure]
 rw [if_pos ⟨by omega,by omega⟩]
 simp [Ae hn,Ck]
theorem iaA_ok {t e es len n:Nat} (hu:P.underlying t=some (.array len e)) (hn:A5 P e=some es) {x r i:AV} {xv iv:Value} (hx:V g s w x xv) (hi:V g s w i iv) (hin:Bo i=some n) (hlt:n < len)
    (h:JD (n*es) x=some r) :
    ∃ v,(Instr.indexAt t xv iv).run P w=.ok v w∧V g s w r v:=by
 obtain ⟨k,rfl⟩:=Ce hi hin
 have run:∀ b o:Nat,(Instr.indexAt t (.pointer (some ⟨b,o,none⟩)) (.int k (n:Int))).run P w=.ok (.pointer (some ⟨b,o+n*es,none⟩)) w:=by
  intro b o
  simp only [Instr.indexAt,Sem.run_bind,DY,Result.andThen_ok,AA hu,Sem.run_pure,Instr.sureAddr]
  rw [if_pos ⟨by omega,by omega⟩]
  simp [Ae hn,Ck]
 cases x<;>simp only [JD] at h<;>try (cases h; done)
 case p id o =>
  cases h
  simp only [V] at hx
  obtain ⟨h1,rfl⟩:=hx
  exact ⟨_,run _ _,by simp only [V]; exact ⟨h1,trivial⟩⟩
 case ep l o m =>
  cases h
  simp only [V] at hx
  obtain ⟨b,o',cs,rfl,h1,h2⟩:=hx
  exact ⟨_,run _ _,by simp only [V]; exact ⟨b,o',cs,by rw [Nat.add_assoc],h1,h2⟩⟩
theorem ixA_ok {t e es len n:Nat} {agg:Bool} (hu:P.underlying t=some (.array len e)) (ha:Hb P e=some agg) (hn:A5 P e=some es) {l m:List AV} {r i:AV} {xv iv:Value} (hx:V g s w (.agg l) xv) (hi:V g s w i iv)
    (hin:Bo i=some n) (hlt:n < len) (hc:cut l (n*es) es=some m) (hr:scal agg m=some r):∃ v,(Instr.index t xv iv).run P w=.ok v w∧V g s w r v:=by
 obtain ⟨k,rfl⟩:=Ce hi hin
 simp only [V] at hx
 obtain ⟨vs,h1,rfl⟩:=hx
 obtain ⟨v,e1,e2⟩:=MC ha hn h1 hc hr
 refine ⟨v,?_,e2⟩
 simp only [Instr.index,Sem.run_bind,DY,Result.andThen_ok,AA hu]
 rw [if_pos ⟨by omega,by omega⟩]
 simp [Ae hn,e1]
theorem LY {l:List Nat} {n c:Nat} (h:l[n]? = some c):(AL l)[n]? = some (UInt8.ofNat c):=by
 have hlt:n < l.length:=by rcases List.getElem?_eq_some_iff.1 h with ⟨h,_⟩; exact h
 have hs:n < (AL l).size:=by rw [Bd]; exact hlt
 rw [getElem?_pos (AL l) n hs]
 congr 1
 rcases List.getElem?_eq_some_iff.1 h with ⟨_,h⟩
 simp [AL,ByteArray.getElem_eq_getElem_data,h]
theorem ixS_ok {t n c:Nat} (hu:P.underlying t=some .string) {l:List Nat} {i:AV} {xv iv:Value} (hx:V g s w (.s l) xv) (hi:V g s w i iv) (hin:Bo i=some n) (hc:l[n]? = some c) :
    ∃ v,(Instr.index t xv iv).run P w=.ok v w∧V g s w (.i .u8 (Int.ofNat c)) v:=by
 obtain ⟨k,rfl⟩:=Ce hi hin
 simp only [V] at hx
 obtain ⟨rfl,hlt⟩:=hx
 have hm:c∈l:=List.mem_of_getElem? hc
 have:=hlt c hm
 refine ⟨.int .u8 (Int.ofNat c),?_,by simp [V]⟩
 simp only [Instr.index,Sem.run_bind,DY,Result.andThen_ok,AA hu]
 rw [if_pos (by omega),Int.toNat_natCast,LY hc]
 simp only [Sem.run_pure]
 rw [show (UInt8.ofNat c).toNat=c by rw [UInt8.toNat_ofNat']; omega]
 rfl
/-! ### Texts -/
theorem I2 (a b:List Nat):AL a++AL b=AL (a++b):=by
 have:∀ x y:ByteArray,x.data=y.data→x=y:=fun x y h=>by cases x; cases y; simp_all
 apply this
 rw [ByteArray.data_append]
 simp [AL]
theorem Km (s:ByteArray):s.toList=s.data.toList:=by
 exact ByteArray.toList_eq s
theorem I3 (l:List Nat):(AL l).toList=l.map UInt8.ofNat:=by
 rw [Km,Gi]
theorem IL {a b:Nat} (ha:a < 256) (hb:b < 256):(UInt8.ofNat a==UInt8.ofNat b)=Nat.beq a b:=by
 by_cases h:a=b
 · subst h; rw [Nat.beq_refl]; exact beq_self_eq_true _
 · have h1:Nat.beq a b=false:=by
    cases hb:Nat.beq a b with
    | false=>rfl
    | true=>exact absurd (Nat.eq_of_beq_eq_true hb) h
   rw [h1]
   rw [beq_eq_false_iff_ne]
   intro he
   have:=congrArg UInt8.toNat he
   rw [UInt8.toNat_ofNat',UInt8.toNat_ofNat'] at this
   omega
theorem Jl:∀ {a b:List Nat},(∀ n∈a,n < 256)→(∀ n∈b,n < 256)→(a.map UInt8.ofNat==b.map UInt8.ofNat)=beqN a b
 | [],[],_,_=>rfl
 | [],_::_,_,_=>rfl
 | _::_,[],_,_=>rfl
 | x::a,y::b,ha,hb=>by
   simp only [List.map_cons,beqN]
   rw [show ((UInt8.ofNat x::a.map UInt8.ofNat)==(UInt8.ofNat y::b.map UInt8.ofNat))=((UInt8.ofNat x==UInt8.ofNat y)&&(a.map UInt8.ofNat==b.map UInt8.ofNat)) from rfl]
   rw [IL (ha x (by simp)) (hb y (by simp)),Jl (fun n hn=>ha n (by simp [hn])) (fun n hn=>hb n (by simp [hn]))]
theorem Pw:∀ {a b:List Nat},(∀ n∈a,n < 256)→(∀ n∈b,n < 256)→Op.bytesLess (a.map UInt8.ofNat) (b.map UInt8.ofNat)=ltN a b
 | [],[],_,_=>rfl
 | [],_::_,_,_=>rfl
 | _::_,[],_,_=>rfl
 | x::a,y::b,ha,hb=>by
   simp only [List.map_cons,Op.bytesLess,ltN]
   rw [IL (ha x (by simp)) (hb y (by simp)),Pw (fun n hn=>ha n (by simp [hn])) (fun n hn=>hb n (by simp [hn]))]
   congr 1
   have hx:=ha x (by simp)
   have hy:=hb y (by simp)
   rw [Bool.eq_iff_iff,decide_eq_true_iff,UInt8.lt_iff_toNat_lt,UInt8.toNat_ofNat',UInt8.toNat_ofNat',Nat.blt_eq]
   omega
theorem O5 {op:BinOp} {a b:List Nat} {r:AV} (ha:∀ n∈a,n < 256) (hb:∀ n∈b,n < 256) (h:Ml op a b=some r) :
    ∃ v,(Op.stringOp op (AL a) (AL b)).run P w=.ok v w∧V g s w r v:=by
 have e1:=Jl ha hb
 have e2:=Pw ha hb
 cases op<;>simp only [Ml] at h<;>try (cases h; done)
 case add =>
  by_cases hlen:a.length+b.length < 2^62
  case neg=>rw [if_neg hlen] at h; cases h
  rw [if_pos hlen] at h
  cases h
  refine ⟨.string (AL (a++b)),?_,?_⟩
  · simp only [Op.stringOp]
    rw [if_neg (by
     have:IntKind.i64.max=9223372036854775807:=rfl
     rw [Bd,Bd,this]; omega),I2]
    rfl
  · simp only [V]
    refine ⟨trivial,fun n hn=>?_⟩
    rcases List.mem_append.1 hn with hn | hn
    · exact ha n hn
    · exact hb n hn
 all_goals
  cases h
  refine ⟨_,rfl,?_⟩
  simp only [V,I3,e1,e2]
end Go.Proofs.Ytfpoihibfajhlaa.Am

namespace Go.Proofs.Ytfpoihibfajhlaa.Am
variable {CR:Nat→Code→C→Prop} {P:Program} {g:G} {s s':St} {w:World}
theorem O6 {op:BinOp} {k:IntKind} {a b:Int} {r:AV} (h:GV op k a b=some r) (hop:op≠.shl∧op≠.shr) :
    ∀ t,∃ v,(Go.binOp op t (.int k a) (.int k b)).run P w=.ok v w∧V g s w r v:=by
 intro t
 cases op<;>simp only [GV] at h<;>try (cases h; done)
 case quo =>
  by_cases hb:b=0
  case pos=>rw [if_pos hb] at h; cases h
  rw [if_neg hb] at h; cases h
  refine ⟨_,?_,by simp only [V]; exact rfl⟩
  simp [Go.binOp,Op.intDiv,hb]
 case rem =>
  by_cases hb:b=0
  case pos=>rw [if_pos hb] at h; cases h
  rw [if_neg hb] at h; cases h
  refine ⟨_,?_,by simp only [V]; exact rfl⟩
  simp [Go.binOp,Op.intDiv,hb]
 all_goals
  cases h
  refine ⟨_,?_,by simp only [V]; exact rfl⟩
  simp [Go.binOp,Op.intArith,Op.intBits,Op.intCmp]
theorem Px {op:BinOp} {x y r:AV} {xv yv:Value} (hx:V g s w x xv) (hy:V g s w y yv) (h:binOp op x y=some r) :
    ∀ t,∃ v,(Go.binOp op t xv yv).run P w=.ok v w∧V g s w r v:=by
 intro t
 unfold binOp at h
 split at h
 · rename_i k a k' b
   simp only [V] at hx hy; subst hx; subst hy
   by_cases hb:b < 0
   case pos=>rw [if_pos hb] at h; cases h
   rw [if_neg hb] at h; cases h
   refine ⟨_,?_,by simp only [V]; exact rfl⟩
   simp only [Go.binOp,Op.shift]
   rw [if_neg hb]; rfl
 · rename_i k a k' b
   simp only [V] at hx hy; subst hx; subst hy
   by_cases hb:b < 0
   case pos=>rw [if_pos hb] at h; cases h
   rw [if_neg hb] at h; cases h
   refine ⟨_,?_,by simp only [V]; exact rfl⟩
   simp only [Go.binOp,Op.shift]
   rw [if_neg hb]; rfl
 · rename_i op k a k' b h1 h2
   simp only [V] at hx hy; subst hx; subst hy
   by_cases hk:k=k'
   case neg=>rw [if_neg hk] at h; cases h
   rw [if_pos hk] at h
   subst hk
   exact O6 h ⟨h1,h2⟩ t
 · rename_i a n
   simp only [V] at hx hy
   subst hx
   obtain ⟨z,rfl,hz⟩:=hy
   split at h<;>try (cases h; done)
   rename_i hle
   cases h
   have:¬ a > z:=by omega
   exact ⟨.bool false,by simp [Go.binOp,Op.intCmp,this],by simp only [V]⟩
 · rename_i a b h1 h2 h3
   simp only [V] at hx hy
   obtain ⟨rfl,ha⟩:=hx
   obtain ⟨rfl,hb⟩:=hy
   obtain ⟨v,e1,e2⟩:=O5 (P:=P) (g:=g) (s:=s) (w:=w) ha hb h
   refine ⟨v,?_,e2⟩
   cases op<;>exact e1
 · cases h
theorem un_ok {op:UnOp} {x r:AV} {xv:Value} (hx:V g s w x xv) (h:unOp op x=some r):∃ v,(Op.unary op xv).run P w=.ok v w∧V g s w r v:=by
 unfold unOp at h
 split at h
 · simp only [V] at hx; subst hx; cases h
   exact ⟨_,rfl,by simp only [V]⟩
 · simp only [V] at hx; subst hx
   simp only [GV] at h; cases h
   exact ⟨_,rfl,by simp only [V]⟩
 · simp only [V] at hx; subst hx; cases h
   exact ⟨_,rfl,by simp only [V]⟩
 · cases h
/-! ### Equality -/
def MD (P:Program) (t:Nat):EK→Prop
 | .bool=>P.underlying t=some .bool
 | .ptr=>∃ e n,P.underlying t=some (.pointer e)∧A5 P e=some (n+1)
 | .sl=>∃ e,P.underlying t=some (.slice e)
 | .mp=>∃ k e,P.underlying t=some (.map k e)
 | .fn=>∃ a b c,P.underlying t=some (.func a b c)
 | .ifc=>∃ m,P.underlying t=some (.interface m)
 | .st _=>False
theorem eqS_ok {x y:AV} {xv yv:Value} {r:Bool} {t:Nat} (hx:V g s w x xv) (hy:V g s w y yv) (ht:MD P t .sl) (h:eqv .sl x y=some r) :
    (Op.equal t xv yv).run P w=.ok r w:=by
 have hd:Op.maxDepth=9999+1:=rfl
 unfold Op.equal
 rw [hd]
 generalize (9999:Nat)=d
 obtain ⟨e,h1⟩:=ht
 simp only [eqv,eqS] at h
 split at h<;>(try simp only [V] at hx hy)
 · subst hx; subst hy; cases h; (simp only [Op.equalIn,Sem.run_bind,AA h1,Result.andThen_ok]; try rfl)
 · obtain ⟨_,_,_,_,rfl,_⟩:=hy; subst hx; cases h; (simp only [Op.equalIn,Sem.run_bind,AA h1,Result.andThen_ok]; try rfl)
 · obtain ⟨_,_,_,_,rfl,_⟩:=hx; subst hy; cases h; (simp only [Op.equalIn,Sem.run_bind,AA h1,Result.andThen_ok]; try rfl)
 · rcases hy with ⟨_,hh⟩ | ⟨_,hh⟩ | hy
   · cases hh
   · cases hh
   obtain ⟨_,_,_,_,rfl,_⟩:=hy; subst hx; cases h; (simp only [Op.equalIn,Sem.run_bind,AA h1,Result.andThen_ok]; try rfl)
 · rcases hx with ⟨_,hh⟩ | ⟨_,hh⟩ | hx
   · cases hh
   · cases hh
   obtain ⟨_,_,_,_,rfl,_⟩:=hx; subst hy; cases h; (simp only [Op.equalIn,Sem.run_bind,AA h1,Result.andThen_ok]; try rfl)
 · obtain ⟨_,_,rfl,_⟩:=hy; subst hx; cases h; (simp only [Op.equalIn,Sem.run_bind,AA h1,Result.andThen_ok]; try rfl)
 · obtain ⟨_,_,rfl,_⟩:=hx; subst hy; cases h; (simp only [Op.equalIn,Sem.run_bind,AA h1,Result.andThen_ok]; try rfl)
 · obtain ⟨_,rfl⟩:=hy; subst hx; cases h; (simp only [Op.equalIn,Sem.run_bind,AA h1,Result.andThen_ok]; try rfl)
 · obtain ⟨_,rfl⟩:=hx; subst hy; cases h; (simp only [Op.equalIn,Sem.run_bind,AA h1,Result.andThen_ok]; try rfl)
 · cases h
theorem eqv_ok {k:EK} {x y:AV} {xv yv:Value} {r:Bool} {t:Nat} (hx:V g s w x xv) (hy:V g s w y yv) (ht:MD P t k) (h:eqv k x y=some r) :
    (Op.equal t xv yv).run P w=.ok r w:=by
 by_cases hk:k=.sl
 · subst hk; exact eqS_ok hx hy ht h
 have hd:Op.maxDepth=9999+1:=rfl
 unfold Op.equal
 rw [hd]
 generalize (9999:Nat)=d
 cases k with
 | bool =>
   simp only [eqv,eqB] at h
   split at h
   · simp only [V] at hx hy; subst hx; subst hy
     cases h
     simp only [MD] at ht
     (simp only [Op.equalIn,Sem.run_bind,AA ht,Result.andThen_ok]; try rfl)
   · cases h
 | ptr =>
   obtain ⟨e,n,h1,h2⟩:=ht
   simp only [eqv,eqP] at h
   split at h<;>(try simp only [V] at hx hy)
   · subst hx; subst hy; cases h; (simp only [Op.equalIn,Sem.run_bind,AA h1,Result.andThen_ok]; try rfl)
   · obtain ⟨_,rfl⟩:=hy; subst hx; cases h; (simp only [Op.equalIn,Sem.run_bind,AA h1,Result.andThen_ok]; try rfl)
   · obtain ⟨_,rfl⟩:=hx; subst hy; cases h; (simp only [Op.equalIn,Sem.run_bind,AA h1,Result.andThen_ok]; try rfl)
   · obtain ⟨_,_,_,rfl,_⟩:=hy; subst hx; cases h; (simp only [Op.equalIn,Sem.run_bind,AA h1,Result.andThen_ok]; try rfl)
   · obtain ⟨_,_,_,rfl,_⟩:=hx; subst hy; cases h; (simp only [Op.equalIn,Sem.run_bind,AA h1,Result.andThen_ok]; try rfl)
   · rename_i a o b q
     by_cases hab:a=b
     case neg=>rw [if_neg hab] at h; cases h
     rw [if_pos hab] at h
     subst hab
     cases h
     obtain ⟨_,rfl⟩:=hx
     obtain ⟨_,rfl⟩:=hy
     have e1:((⟨g.bx a,o,none⟩:Addr)==⟨g.bx a,q,none⟩)=Nat.beq o q:=by
      by_cases hoq:o=q
      · subst hoq; rw [Nat.beq_refl]; exact beq_self_eq_true _
      · have h1:Nat.beq o q=false:=by
         cases hb:Nat.beq o q with
         | false=>rfl
         | true=>exact absurd (Nat.eq_of_beq_eq_true hb) hoq
        rw [h1,beq_eq_false_iff_ne]
        intro hh; cases hh; exact hoq rfl
     simp only [Op.equalIn,Sem.run_bind,AA h1,Result.andThen_ok]
     simp only [Sem.run_bind,Ae h2,Result.andThen_ok]
     rw [if_pos (Nat.succ_ne_zero n)]
     simp [sameAddr,e1]
   · cases h
 | sl=>exact absurd rfl hk
 | mp =>
   obtain ⟨q,e,h1⟩:=ht
   simp only [eqv,eqM] at h
   split at h<;>(try simp only [V] at hx hy)
   · subst hx; subst hy; cases h; (simp only [Op.equalIn,Sem.run_bind,AA h1,Result.andThen_ok]; try rfl)
   · obtain ⟨_,rfl⟩:=hy; subst hx; cases h; (simp only [Op.equalIn,Sem.run_bind,AA h1,Result.andThen_ok]; try rfl)
   · obtain ⟨_,rfl⟩:=hx; subst hy; cases h; (simp only [Op.equalIn,Sem.run_bind,AA h1,Result.andThen_ok]; try rfl)
   · cases h
 | fn =>
   obtain ⟨a,b,c,h1⟩:=ht
   simp only [eqv,eqF] at h
   split at h<;>(try simp only [V] at hx hy)
   · subst hx; subst hy; cases h; (simp only [Op.equalIn,Sem.run_bind,AA h1,Result.andThen_ok]; try rfl)
   · obtain ⟨_,_,rfl⟩:=hy; subst hx; cases h; (simp only [Op.equalIn,Sem.run_bind,AA h1,Result.andThen_ok]; try rfl)
   · obtain ⟨_,_,rfl⟩:=hx; subst hy; cases h; (simp only [Op.equalIn,Sem.run_bind,AA h1,Result.andThen_ok]; try rfl)
   · obtain ⟨_,rfl⟩:=hy; subst hx; cases h; (simp only [Op.equalIn,Sem.run_bind,AA h1,Result.andThen_ok]; try rfl)
   · obtain ⟨_,rfl⟩:=hx; subst hy; cases h; (simp only [Op.equalIn,Sem.run_bind,AA h1,Result.andThen_ok]; try rfl)
   · cases h
 | ifc =>
   obtain ⟨m,h1⟩:=ht
   simp only [eqv,eqI] at h
   split at h<;>(try simp only [V] at hx hy)
   · subst hx; subst hy; cases h; (simp only [Op.equalIn,Sem.run_bind,AA h1,Result.andThen_ok]; try rfl)
   · obtain ⟨_,_,rfl⟩:=hy; subst hx; cases h; (simp only [Op.equalIn,Sem.run_bind,AA h1,Result.andThen_ok]; try rfl)
   · obtain ⟨_,_,rfl⟩:=hx; subst hy; cases h; (simp only [Op.equalIn,Sem.run_bind,AA h1,Result.andThen_ok]; try rfl)
   · cases h
 | st ks=>exact ht.elim
theorem JE {t k:Nat} (hk:LL P t=some k) {xs:Array Value} {off:Nat} {v:Value} (hx:xs[off]? = some v):(part t xs off).run P w=.ok v w:=by
 unfold LL at hk
 split at hk<;>(try cases hk)<;>rename_i hu<;>simp [part,isAgg,AA hu,hx]
theorem eq1_ok {d t k:Nat} {x y:AV} {xv yv:Value} {r:Bool} (hk:LL P t=some k) (hx:V g s w x xv) (hy:V g s w y yv) (h:eq1 k x y=some r):(Op.equalIn (d+1) t xv yv).run P w=.ok r w:=by
 unfold eq1 at h
 split at h<;>try (cases h; done)
 · simp only [V] at hx hy; subst hx; subst hy
   cases h
   unfold LL at hk
   split at hk<;>try (cases hk; done)
   rename_i hu
   simp [Op.equalIn,AA hu]
 · rename_i k1 a k2 b
   simp only [V] at hx hy; subst hx; subst hy
   by_cases hkk:k1=k2
   case neg=>rw [if_neg hkk] at h; cases h
   rw [if_pos hkk] at h
   subst hkk
   cases h
   unfold LL at hk
   split at hk<;>try (cases hk; done)
   rename_i hu
   simp only [Op.equalIn,Sem.run_bind,AA hu,Result.andThen_ok,if_true,Sem.run_pure]
   rfl
 · rename_i a b
   simp only [V] at hx hy
   obtain ⟨rfl,ha⟩:=hx
   obtain ⟨rfl,hb⟩:=hy
   cases h
   unfold LL at hk
   split at hk<;>try (cases hk; done)
   rename_i hu
   have e1:=Jl ha hb
   rw [run_equalIn_string w d t _ _ hu,← e1]
   simp [AL,ByteArray.toList_eq]
theorem IM {d:Nat} {xs ys:Array Value}:∀ (fs:List Field) (i:Nat) (ks:List Nat) (l m:List AV) (us vs:List Value) (r:Bool),stF P i fs=some ks→VL g s w l us→VL g s w m vs→xs.toList.drop i=us→ys.toList.drop i=vs→eqC ks l m=some r→(Op.eqFields (d+1) xs ys fs).run P w=.ok r w
 | [],i,ks,l,m,us,vs,r,hk,hl,hm,hx,hy,h=>by
   simp only [stF,Option.some.injEq] at hk
   subst hk
   cases l<;>cases m<;>simp only [eqC,Option.some.injEq] at h<;>try (cases h; done)
   subst h
   rfl
 | f::fs,i,ks,l,m,us,vs,r,hk,hl,hm,hx,hy,h=>by
   simp only [stF] at hk
   split at hk<;>try (cases hk; done)
   rename_i k ks' hk1 hk2
   split at hk<;>try (cases hk; done)
   rename_i hc
   cases hk
   cases l<;>cases m<;>simp only [eqC] at h<;>try (cases h; done)
   rename_i a l b m
   split at h<;>try (cases h; done)
   rename_i r1 r2 h1 h2
   cases h
   simp only [VL] at hl hm
   obtain ⟨u,us',rfl,hu,hus⟩:=hl
   obtain ⟨v,vs',rfl,hv,hvs⟩:=hm
   have gx:xs[i]? = some u:=by
    rw [← Array.getElem?_toList]
    have:=congrArg (·[0]?) hx
    simpa using this
   have gy:ys[i]? = some v:=by
    rw [← Array.getElem?_toList]
    have:=congrArg (·[0]?) hy
    simpa using this
   have dx:xs.toList.drop (i+1)=us':=by
    rw [← List.drop_drop,hx]; rfl
   have dy:ys.toList.drop (i+1)=vs':=by
    rw [← List.drop_drop,hy]; rfl
   have ih:=IM (d:=d) fs (i+1) ks' l m us' vs' r2 hk2 hus hvs dx dy h2
   have p1:=JE (w:=w) hk1 gx
   have p2:=JE (w:=w) hk1 gy
   have p3:=eq1_ok (d:=d) hk1 hu hv h1
   rw [← hc.1] at p1 p2
   simp only [Op.eqFields,hc.2,ne_eq,not_false_eq_true,if_true,Sem.run_bind,p1,p2,p3,Result.andThen_ok]
   cases r1
   · simp
   · simpa using ih
theorem Nf {t:Nat} {fs:Array Field} {ks:List Nat} {x y:AV} {xv yv:Value} {r:Bool} (hu:P.underlying t=some (.struct fs)) (hk:stK P t fs=some ks) (hx:V g s w x xv) (hy:V g s w y yv) (h:eqv (.st ks) x y=some r) :
    P.eqGuardType P.depth t=false∧∃ xs ys,xv=.agg xs∧yv=.agg ys∧(Op.equalIn 10000 t (.agg xs) (.agg ys)).run P w=.ok r w:=by
 unfold stK at hk
 split at hk<;>try (cases hk; done)
 rename_i hc
 simp only [eqv] at h
 unfold eqG at h
 split at h<;>try (cases h; done)
 rename_i l m
 simp only [V] at hx hy
 obtain ⟨us,h1,rfl⟩:=hx
 obtain ⟨vs,h2,rfl⟩:=hy
 refine ⟨hc.2,_,_,rfl,rfl,?_⟩
 have hf:P.fieldsOf t=fs:=by unfold Program.fieldsOf; rw [hu]
 rw [show (10000:Nat)=(9998+1)+1 from rfl,run_equalIn_struct w (9998+1) t _ _ (by rw [hf]; exact hu) hc.1,hf]
 exact IM fs.toList 0 ks l m us vs r hk h1 h2 (by simp) (by simp) h
/-! ### Lengths -/
theorem len_sl {t e:Nat} {c:Array TypeId} {ty:TypeId} {x r:AV} {xv:Value} (hc:c[0]? = some t) (hu:P.underlying t=some (.slice e)) (hx:V g s w x xv) (h:lenA s 1 x=some r) :
    ∃ v,(Builtin.len_ c ty #[xv]).run P w=.ok v w∧V g s w r v:=by
 have a0:(#[xv]:Array Value)[0]? = some xv:=rfl
 unfold lenA at h
 cases x<;>simp only at h<;>try (cases h; done)
 · cases h
   simp only [V] at hx; subst hx
   exact ⟨goInt 0,by simp only [Builtin.len_,hc,a0,Sem.run_bind,AA hu,Result.andThen_ok]; rfl,by simp [V,goInt]⟩
 · cases h
   simp only [V] at hx
   obtain ⟨b,o,cap,vs,rfl,_⟩:=hx
   exact ⟨goInt _,by simp only [Builtin.len_,hc,a0,Sem.run_bind,AA hu,Result.andThen_ok]; rfl,by simp [V,goInt]⟩
 · cases h
   simp only [V] at hx
   rcases hx with ⟨rfl,rfl⟩ | ⟨⟨_,rfl⟩,rfl⟩ | ⟨b,o,cap,vs,rfl,_⟩
   · exact ⟨goInt 0,by simp only [Builtin.len_,hc,a0,Sem.run_bind,AA hu,Result.andThen_ok]; rfl,by simp [V,goInt]⟩
   · exact ⟨goInt 0,by simp only [Builtin.len_,hc,a0,Sem.run_bind,AA hu,Result.andThen_ok]; rfl,by simp [V,goInt]⟩
   · exact ⟨goInt _,by simp only [Builtin.len_,hc,a0,Sem.run_bind,AA hu,Result.andThen_ok]; rfl,by simp [V,goInt]⟩
 · cases h
   simp only [V] at hx
   obtain ⟨o,cap,rfl,_⟩:=hx
   exact ⟨goInt _,by simp only [Builtin.len_,hc,a0,Sem.run_bind,AA hu,Result.andThen_ok]; rfl,by simp [V,goInt]⟩
 · cases h
   simp only [V] at hx
   obtain ⟨a,rfl⟩:=hx
   exact ⟨goInt 0,by simp only [Builtin.len_,hc,a0,Sem.run_bind,AA hu,Result.andThen_ok]; rfl,by simp [V,goInt]⟩
theorem len_ok {k:Nat} {t:Nat} {c:Array TypeId} {ty:TypeId} {x r:AV} {xv:Value} (hI:Inv CR g s w) (hc:c[0]? = some t) (hk:(k=0∧P.underlying t=some .string)∨(k=1∧∃ e,P.underlying t=some (.slice e))∨(k=2∧∃ q e,P.underlying t=some (.map q e)))
    (hx:V g s w x xv) (h:lenA s k x=some r) :
    ∃ v,(Builtin.len_ c ty #[xv]).run P w=.ok v w∧V g s w r v:=by
 have a0:(#[xv]:Array Value)[0]? = some xv:=rfl
 rcases hk with ⟨rfl,hu⟩ | ⟨rfl,e,hu⟩ | ⟨rfl,q,e,hu⟩
 · unfold lenA at h
   cases x<;>simp only at h<;>try (cases h; done)
   cases h
   simp only [V] at hx
   obtain ⟨rfl,_⟩:=hx
   exact ⟨goInt (AL _).size,by simp only [Builtin.len_,hc,a0,Sem.run_bind,AA hu,Result.andThen_ok]; rfl,by simp only [V,goInt,Bd]; rfl⟩
 · exact len_sl hc hu hx h
 · unfold lenA at h
   cases x<;>simp only at h<;>try (cases h; done)
   · cases h
     simp only [V] at hx; subst hx
     exact ⟨goInt 0,by simp only [Builtin.len_,hc,a0,Sem.run_bind,AA hu,Result.andThen_ok]; rfl,by simp [V,goInt]⟩
   · rename_i id
     cases hb:s.box? id with
     | none=>simp [hb] at h
     | some B =>
       cases B<;>simp only [hb] at h<;>try (cases h; done)
       rename_i es
       cases h
       simp only [V] at hx
       obtain ⟨_,rfl⟩:=hx
       obtain ⟨ents,clock,h1,h2,_⟩:=hI.box id _ hb
       have:∀ {l:List (AV×AV)} {e:List MapEntry},VM g s w l e→e.length=l.length:=by
        intro l
        induction l with
        | nil=>intro e h; simp only [VM] at h; subst h; rfl
        | cons x l ih=>intro e h; obtain ⟨_,r,rfl,_,_,h⟩:=h; simp [ih h]
       have hlen:=this h2
       refine ⟨goInt ents.size,?_,by simp only [V,goInt]; congr 1; simp at hlen; rw [hlen]; rfl⟩
       simp only [Builtin.len_,hc,a0,Sem.run_bind,AA hu,Result.andThen_ok,getObj,Sem.run,h1]; rfl
theorem mm_ok {mx:Bool} {c:Array TypeId} {ty:TypeId} {k k':IntKind} {a b:Int} {xv yv:Value} (hx:V g s w (.i k a) xv) (hy:V g s w (.i k' b) yv) :
    ((if mx then Builtin.max_ c ty #[xv,yv] else Builtin.min_ c ty #[xv,yv])).run P w=.ok (.int k (if mx then (if b > a then b else a) else (if b < a then b else a))) w:=by
 simp only [V] at hx hy
 subst hx; subst hy
 cases mx<;>rfl
end Go.Proofs.Ytfpoihibfajhlaa.Am

namespace Go.Proofs.Ytfpoihibfajhlaa.Am
variable {CR:Nat→Code→C→Prop} {P:Program} {g:G} {s s':St} {w:World}
theorem Ng {a:AV} {v:Value} {n:Nat} (hv:V g s w a v) (h:NH a=some n):v=.int .u8 (Int.ofNat n)∧n < 256:=by
 unfold NH at h
 split at h
 · rename_i m
   split at h
   · rename_i h0
     cases h
     simp only [V] at hv
     exact ⟨by rw [hv]; congr 1; exact (Int.toNat_of_nonneg h0.1).symm,by omega⟩
   · cases h
 · cases h
theorem Gk:∀ {l:List AV} {r:List Nat} {vs:List Value},VL g s w l vs→GF l=some r→vs=r.map (fun n=>Value.int .u8 (Int.ofNat n))∧(∀ n∈r,n < 256)∧r.length=l.length
 | [],r,vs,h,hb=>by
   simp only [GF] at hb; cases hb
   simp only [VL] at h; subst h; simp
 | a :: l,r,vs,h,hb=>by
   simp only [GF] at hb
   split at hb
   · rename_i n r' h1 h2
     cases hb
     simp only [VL] at h
     obtain ⟨v,vs',rfl,k1,k2⟩:=h
     obtain ⟨e1,e2⟩:=Ng k1 h1
     obtain ⟨e3,e4,e5⟩:=Gk k2 h2
     subst e1; subst e3
     refine ⟨rfl,?_,by simp [e5]⟩
     intro m hm
     rcases List.mem_cons.1 hm with rfl | hm
     · exact e2
     · exact e4 m hm
   · cases hb
theorem Kn {x y:ByteArray} (h:x.data=y.data):x=y:=by cases x; cases y; simp_all
theorem HI:∀ l:List Nat,flat (l.map fun n=>Value.int .u8 (Int.ofNat n))=l.map fun n=>Value.int .u8 (Int.ofNat n)
 | []=>rfl
 | a::l=>by simp only [List.map_cons,B6,HI l]; rfl
theorem E2 {f:Value→ByteArray→Sem (ForInStep ByteArray)} (hf:∀ (n:Nat) s,f (.int .u8 (Int.ofNat n)) s=pure (.yield (s.push (UInt8.ofNat n)))) :
    ∀ (r:List Nat) (s0:ByteArray),(forIn (r.map fun n=>Value.int .u8 (Int.ofNat n)).toArray s0 f:Sem ByteArray).run P w=.ok (s0++AL r) w
 | [],s0=>by
   have:s0++AL []=s0:=by
    apply Kn
    rw [ByteArray.data_append]
    simp [AL]
   rw [this]
   simp
 | n::r,s0=>by
   have ih:=E2 hf r (s0.push (UInt8.ofNat n))
   simp only [List.forIn_toArray,List.map_cons,List.forIn_cons,Sem.run_bind,hf] at ih ⊢
   simp only [Sem.run_pure,Result.andThen_ok]
   rw [ih]
   congr 1
   apply Kn
   rw [ByteArray.data_append,ByteArray.data_append]
   apply Array.toList_inj.1
   simp [AL]
theorem HJ {t u e:Nat} (hu:P.underlying t=some (.slice e)) (he:P.underlying e=some (.int .u8)) (hd:P.underlying u=some .string) {x:AV} {xv:Value} {r:List Nat} (hx:V g s w x xv)
    (h:(match x with | .nsl=>some [] | .wz=>some [] | .sl _ xs m=>if s.ok m then GF xs else none | _=>none)=some r) :
    ∃ v,(convert t u xv).run P w=.ok v w∧V g s w (.s r) v:=by
 have conv:∀ x:Value,(∀ k n,x≠.int k n)→(∀ k n,x≠.float k n)→(∀ k a b,x≠.complex k a b)→(∀ s,x≠.string s)→(convert t u x).run P w=(Conv.bytesToString x).run P w:=by
  intro x h1 h2 h3 h4
  cases x with
  | int k n=>exact absurd rfl (h1 _ _)
  | float k n=>exact absurd rfl (h2 _ _)
  | complex k a b=>exact absurd rfl (h3 _ _ _)
  | string s=>exact absurd rfl (h4 _)
  | slice a l c=>cases a<;>simp [convert,AA hu,AA hd,AA he]
  | _=>simp [convert,AA hu,AA hd,AA he]
 cases x<;>simp only at h<;>try (cases h; done)
 case wz =>
  cases h
  simp only [V] at hx; obtain ⟨a,rfl⟩:=hx
  exact ⟨.string .empty,by rw [conv _ (by simp) (by simp) (by simp) (by simp)]; simp [Conv.bytesToString,loadCells,loadCellsFrom],by simp only [V]; exact ⟨rfl,by simp⟩⟩
 case nsl =>
  cases h
  simp only [V] at hx; subst hx
  exact ⟨.string .empty,by rw [conv _ (by simp) (by simp) (by simp) (by simp)]; simp [Conv.bytesToString],by simp only [V]; exact ⟨rfl,by simp⟩⟩
 case sl es xs m =>
  by_cases hok:s.ok m=true
  case neg=>rw [if_neg hok] at h; cases h
  rw [if_pos hok] at h
  simp only [V] at hx
  obtain ⟨b,o,cap,vs,rfl,h1,h2,h3,h4⟩:=hx
  obtain ⟨k1,k2,_,_⟩:=h4 hok
  obtain ⟨e1,e2,e3⟩:=Gk k1 h
  have hfl:flat vs=vs:=by rw [e1,HI]
  refine ⟨.string (AL r),?_,by simp only [V]; exact ⟨trivial,e2⟩⟩
  rw [conv _ (by simp) (by simp) (by simp) (by simp)]
  have hl:=k1.length
  rw [hfl] at k2
  simp only [Conv.bytesToString,Sem.run_bind,Ad (P:=P) hl k2,Result.andThen_ok]
  subst e1
  rw [E2 (P:=P) (w:=w) (fun n s=>by simp) r ByteArray.empty]
  simp only [Result.andThen_ok,Sem.run_pure]
  congr 2
theorem Qf {t u e:Nat} (hI:Inv CR g s w) (hu:P.underlying t=some (.slice e)) (he:P.underlying e=some (.int .u8)) (hd:P.underlying u=some .string) {id off n:Nat} {x:Nat×Bool} {xv:Value} {ys:List AV} {r:List Nat}
    (hx:V g s w (.bl id 1 off n x) xv) (hr:rowB s id off n=some ys) (h:GF ys=some r):∃ v,(convert t u xv).run P w=.ok v w∧V g s w (.s r) v:=by
 obtain ⟨vs,k1,k2,k3,k4⟩:=II hI hr
 obtain ⟨e1,e2,e3⟩:=Gk k1 h
 simp only [V] at hx
 obtain ⟨o,cap,rfl,_,hz,_,hoff,_⟩:=hx
 refine ⟨.string (AL r),?_,by simp only [V]; exact ⟨trivial,e2⟩⟩
 rw [show convert t u (.slice (some ⟨g.bx id,o,none⟩) n cap)=convert t u (.slice (some ⟨g.bx id,o,none⟩) n cap) from rfl]
 have conv:(convert t u (.slice (some ⟨g.bx id,o,none⟩) n cap)).run P w=(Conv.bytesToString (.slice (some ⟨g.bx id,o,none⟩) n cap)).run P w:=by
  simp [convert,AA hu,AA hd,AA he]
 rw [conv]
 have hld:(loadCells ⟨g.bx id,o,none⟩ n).run P w=.ok vs.toArray w:=by
  by_cases h0:n=0
  · subst h0
    have:vs=[]:=List.length_eq_zero_iff.1 k2
    subst this
    simp [loadCells,loadCellsFrom]
  · rw [hoff (by omega)]; exact Ad k2 k4
 simp only [Conv.bytesToString,Sem.run_bind,hld,Result.andThen_ok]
 subst e1
 rw [E2 (P:=P) (w:=w) (fun n s=>by simp) r ByteArray.empty]
 simp only [Result.andThen_ok,Sem.run_pure]
 congr 2
theorem Qg {t u e:Nat} (hI:Inv CR g s w) (hd:P.underlying u=some (.slice e)) (he:P.underlying e=some (.int .u8)) (ht:P.underlying t=some .string) {l:List Nat} {xv:Value} (hx:V g s w (.s l) xv) :
    ∃ v w',(convert t u xv).run P w=.ok v w'∧Good CR g s w (s.newTok l.length none) (.sl 1 (l.map fun n=>AV.i .u8 (Int.ofNat n)) (.tok s.nt 0)) v w':=by
 simp only [V] at hx
 obtain ⟨rfl,hlt⟩:=hx
 have hdr:Le g s w g s { w with drawn:=w.drawn+1 }:=Le.heap rfl
 have hIdr:Inv CR g s { w with drawn:=w.drawn+1 }:=Inv.heap (w:=w) rfl hI
 obtain ⟨cap,hcap1,hcap2⟩:∃ cap,cap=Question.cut (.appendCap (AL l).size 0 e) (w.tape w.drawn (.appendCap (AL l).size 0 e))∧l.length≤cap:=by
  refine ⟨_,rfl,?_⟩
  simp only [Question.cut,Bd]; omega
 have hal:∀ l:List Nat,AY 1 (l.map fun n=>AV.i .u8 (Int.ofNat n))=true:=by
  intro l; induction l with
  | nil=>rfl
  | cons a l ih=>simp only [List.map_cons,AY,AV.cells,List.length_cons,List.length_nil,ih]; rfl
 have hVL:∀ (s:St) (w:World) (l:List Nat),VL g s w (l.map fun n=>AV.i .u8 (Int.ofNat n)) (l.map fun n=>Value.int .u8 (Int.ofNat n)):=by
  intro s w l; induction l with
  | nil=>simp [VL]
  | cons a l ih=>simp only [List.map_cons,VL]; exact ⟨_,_,rfl,by simp [V],ih⟩
 have hfl:∀ l:List Nat,flat (l.map fun n=>Value.int .u8 (Int.ofNat n))=l.map fun n=>Value.int .u8 (Int.ofNat n):=by
  intro l; induction l with
  | nil=>rfl
  | cons a l ih=>simp only [List.map_cons,B6,ih]; rfl
 let arr:Array Value:=((AL l).data.map fun b=>Value.int .u8 b.toNat)++Array.replicate (cap - (AL l).size) (.int .u8 0)
 have harr:arr.toList=flat (l.map fun n=>Value.int .u8 (Int.ofNat n))++List.replicate (cap - l.length) (.int .u8 0):=by
  simp only [arr,Array.toList_append,Array.toList_map,Gi,List.map_map,hfl,Bd,Array.toList_replicate]
  congr 1
  apply List.map_congr_left
  intro n hn
  have:=hlt n hn
  simp only [Function.comp_apply]
  rw [show (UInt8.ofNat n).toNat=n by rw [UInt8.toNat_ofNat']; omega]
  rfl
 have hsz:arr.size=cap:=by
  have:=congrArg List.length harr
  rw [hfl] at this
  simp at this
  omega
 have hg:=CX (CR:=CR) hIdr (es:=1) (cap:=cap) (Nat.le_refl 1) (hal l) (hVL s _ l) (arr:=arr) e (rest:=List.replicate (cap - l.length) (.int .u8 0)) harr (by simpa using hcap2) (by omega) (ty:=none) (fr:=(cap,cap+1)) (fun x hx=>by simp only; omega) (fun T' hT=>by cases hT)
 simp only [List.length_map] at hg
 refine ⟨_,_,?_,Good.from hdr (Esc.refl _) hg⟩
 simp only [convert,Sem.run_bind,AA ht,AA hd,Result.andThen_ok,AA he,Conv.stringToBytes,run_choose,Question.forced,Bool.false_eq_true,if_false]
 rw [← hcap1]
 simp only [newRow,Sem.run_bind,run_newObj,Result.andThen_ok,Sem.run_pure,markStringish,run_shape]
 have hshape:({ heap:=w.heap.push (Obj.cells arr e),tape:=w.tape,drawn:=w.drawn+1,os:=w.os,output:=w.output }:World).shape? w.heap.size=some (e,cap):=by
  simp only [World.shape?]
  rw [Array.getElem?_push,if_pos rfl]
  simp [hsz]
 simp only [arr] at hshape
 rw [hshape]
 simp only [run_freeze,Result.andThen_ok,Sem.run_pure,Bd]
 congr 1
 simp only [World.freeze,World.alloc]
 rw [if_neg (by omega)]
 congr 1
 apply Array.ext_getElem?
 intro i
 rw [Array.getElem?_modify,Array.getElem?_push,Array.getElem?_push]
 by_cases hi:i=w.heap.size
 · subst hi; simp [arr,Bd]
 · rw [if_neg hi,if_neg hi]
   split
   · rename_i h; exact absurd h.symm hi
   · rfl
theorem IP (l:List Nat) (a b:Nat):(AL l).extract a b=AL ((l.drop a).take (b - a)):=by
 have hx:∀ x y:ByteArray,x.data=y.data→x=y:=fun x y h=>by cases x; cases y; simp_all
 apply hx
 apply Array.toList_inj.1
 rw [ByteArray.data_extract]
 simp [AL,List.map_take,List.map_drop]
theorem slS_ok {t:Nat} (hu:P.underlying t=some .string) {l:List Nat} {xv:Value} {lo hi:Option AV} {lv hv:Option Value} (hx:V g s w (.s l) xv) (hlo:VO g s w lo lv) (hhi:VO g s w hi hv) {a b:Nat}
    (h:Be l.length lo hi=some (a,b)):∃ v,(Instr.sliceAt t xv lv hv none).run P w=.ok v w∧V g s w (.s ((l.drop a).take (b - a))) v:=by
 simp only [V] at hx
 obtain ⟨rfl,hlt⟩:=hx
 obtain ⟨e1,e2,e3⟩:=Bs (P:=P) (isS:=false) (Nat.le_refl _) hlo hhi h
 rw [← Bd l] at e1
 refine ⟨.string ((AL l).extract a b),?_,?_⟩
 · simp [Instr.sliceAt,Instr.slice,AA hu,e1]
 · simp only [V]
   refine ⟨by rw [IP],fun n hn=>hlt n (List.mem_of_mem_drop (List.mem_of_mem_take hn))⟩
/-! ### A text gone through -/
theorem O7 (hI:Inv CR g s w) {t:Nat} (hu:P.underlying t=some .string) {l:List Nat} {xv:Value} (hx:V g s w (.s l) xv) :
    ∃ v w',(Instr.range t xv).run P w=.ok v w'∧Good CR g s w (s.new (.siter l 0)) (.p s.nb 0) v w':=by
 simp only [V] at hx
 obtain ⟨rfl,hlt⟩:=hx
 have hL:=Le.newBox hI (.siter l 0) (.stringIter (AL l) 0)
 refine ⟨_,w.alloc (.stringIter (AL l) 0),by simp [Instr.range,AA hu,World.alloc_eq]; rfl,_,Inv.newBox hI _ _ ⟨Ax w _,hlt⟩,hL,?_,HF _ _⟩
 simp [V,St.new,G.newBox]
theorem IQ {id:Nat} (hI:Inv CR g s w) {B:Box} (hid:id < s.nb) (hB:∀ a,vals B a→∃ B0,s.box? id=some B0∧vals B0 a):Esc s (s.setBox id B):=by
 refine ⟨Nat.le_refl _,fun nb _ _ jd B' hjd hB' x hx=>?_⟩
 rw [setBox_box? hI.lenB hid] at hB'
 by_cases hj:jd=id
 · subst hj; rw [if_pos rfl] at hB'; cases hB'
   exact .inr (hB x hx)
 · rw [if_neg hj] at hB'; exact .inr ⟨B',hB',hx⟩
theorem O8 (hI:Inv CR g s w) {id pos:Nat} {l:List Nat} {xv:Value} {ty:TypeId} (hx:V g s w (.p id 0) xv) (hb:s.box? id=some (.siter l pos)) {r:AV}
    (h : (match l[pos]? with
        | none=>some (AV.tup [.b false],s)
        | some c =>
          if c < 128 then some (.tup [.b true,.i .i64 (Int.ofNat pos),.i .i32 (Int.ofNat c)],s.setBox id (.siter l (pos+1)))
          else
           some (.tup [.b true,.i .i64 (Int.ofNat pos),.i .i32 (Utf8.decode ⟨(l.map UInt8.ofNat).toArray⟩ pos).1],s.setBox id (.siter l (pos+(Utf8.decode ⟨(l.map UInt8.ofNat).toArray⟩ pos).2))))=some (r,s')) :
    ∃ v w',(Instr.next xv true ty).run P w=.ok v w'∧Good CR g s w s' r v w':=by
 simp only [V] at hx
 obtain ⟨hid,rfl⟩:=hx
 obtain ⟨h1,h2⟩:=hI.box id _ hb
 have hget:(getObj (g.bx id)).run P w=.ok (.stringIter (AL l) pos) w:=by simp [getObj,Sem.run,h1]
 have hset:∀ p,(setObj (g.bx id) (.stringIter (AL l) p)).run P w=.ok () { w with heap:=w.heap.setIfInBounds (g.bx id) (.stringIter (AL l) p) }:=by intro p; simp [setObj,Sem.run,h1]
 have hInv:∀ p,Inv CR g (s.setBox id (.siter l p)) { w with heap:=w.heap.setIfInBounds (g.bx id) (.stringIter (AL l) p) }∧Le g s w g (s.setBox id (.siter l p)) { w with heap:=w.heap.setIfInBounds (g.bx id) (.stringIter (AL l) p) }:=by
  intro p
  have e1:({ w with heap:=w.heap.setIfInBounds (g.bx id) (.stringIter (AL l) p) }:World).heap.size=w.heap.size:=by simp
  have e2:∀ b,b≠g.bx id→({ w with heap:=w.heap.setIfInBounds (g.bx id) (.stringIter (AL l) p) }:World).heap[b]? = w.heap[b]? := fun b hb=>by
   simp only [Array.getElem?_setIfInBounds]; rw [if_neg (Ne.symm hb)]
  have hnd:w.heap[g.bx id]? ≠ some (.deferred (some [])):=by rw [h1]; intro hh; cases hh
  have harr:Cx w { w with heap:=w.heap.setIfInBounds (g.bx id) (.stringIter (AL l) p) } (g.bx id):=fun a T' f hb'=>by rw [h1] at hb'; cases hb'
  exact ⟨Inv.setBox hI hb rfl _ e1 e2 hnd harr ⟨by simp only [Array.getElem?_setIfInBounds]; rw [if_pos trivial,if_pos (hI.lt id hid).2],h2⟩,Le.setBox hI hb rfl _ e1 e2 hnd harr⟩
 have hE:∀ p,Esc s (s.setBox id (.siter l p)):=fun p=>IQ hI hid (fun a ha=>absurd ha (by simp [vals]))
 cases hc:l[pos]? with
 | none =>
   simp only [hc] at h
   cases h
   have hge:¬ pos < (AL l).size:=by rw [Bd]; intro hlt; rw [List.getElem?_eq_getElem hlt] at hc; cases hc
   refine ⟨_,_,by simp [Instr.next,hget,hge]; rfl,AH hI ?_⟩
   simp [V,VL]
 | some c =>
   simp only [hc] at h
   have hlt:pos < (AL l).size:=by rw [Bd]; rcases List.getElem?_eq_some_iff.1 hc with ⟨h,_⟩; exact h
   have hc256:=h2 c (List.mem_of_getElem? hc)
   by_cases hascii:c < 128
   · rw [if_pos hascii] at h
     cases h
     have hat:((AL l).get! (pos+0)).toNat=c:=by
      have:(AL l).get! (pos+0)=UInt8.ofNat c:=by
       rcases List.getElem?_eq_some_iff.1 hc with ⟨hl,rfl⟩
       simp [AL,ByteArray.get!,hl]
      rw [this,UInt8.toNat_ofNat']; omega
     have hdec:Utf8.decode (AL l) pos=(c,1):=by
      unfold Utf8.decode
      simp only [hat]
      rw [if_pos hascii]
     refine ⟨_,_,by simp only [Instr.next,Sem.run_bind,hget,Result.andThen_ok]; rw [if_pos hlt]; simp only [hdec,Sem.run_bind,hset,Result.andThen_ok,Sem.run_pure]; rfl,g,(hInv (pos+1)).1,(hInv (pos+1)).2,?_,hE _⟩
     simp [V,VL,goInt]
   · rw [if_neg hascii] at h
     cases h
     refine ⟨_,_,by simp only [Instr.next,Sem.run_bind,hget,Result.andThen_ok]; rw [if_pos hlt]; simp only [Sem.run_bind,hset,Result.andThen_ok,Sem.run_pure]; rfl,g,(hInv _).1,(hInv _).2,?_,hE _⟩
     simp [V,VL,goInt,AL]
end Go.Proofs.Ytfpoihibfajhlaa.Am

namespace Go.Proofs.Ytfpoihibfajhlaa.Am
variable {CR:Nat→Code→C→Prop} {P:Program} {g:G} {s s':St} {w:World}
def LZ (d:TypeDesc) (kk:Nat):Prop:=(kk=0∧∃ k,d=.int k)∨(kk=1∧d=.string)∨(kk=2∧d=.bool)
theorem Nh {t kk et:Nat} (h:keyT P t=some (kk,et)):∃ kt d,P.underlying t=some (.map kt et)∧P.underlying kt=some d∧LZ d kk:=by
 unfold keyT at h
 split at h<;>try (cases h; done)
 rename_i k e hu
 split at h<;>try (cases h; done)
 all_goals (rename_i hk; cases h; exact ⟨k,_,hu,hk,by simp [LZ]⟩)
theorem Gl {d:TypeDesc} {kk:Nat} {a b:AV} {av bv:Value} {r:Bool} (hd:LZ d kk) (ha:V g s w a av) (hb:V g s w b bv) (h:Ix kk a b=some r) :
    Instr.sameNow d av bv=some r∧(r=true→av=bv∧Instr.sameBits 10000 bv av=true):=by
 unfold Ix at h
 split at h<;>try (cases h; done)
 · rename_i k x k' y
   split at h<;>try (cases h; done)
   rename_i hk
   subst hk
   cases h
   simp only [V] at ha hb
   subst ha; subst hb
   rcases hd with ⟨_,j,rfl⟩ | ⟨h,_⟩ | ⟨h,_⟩<;>try (cases h; done)
   refine ⟨by simp [Instr.sameNow],fun hr=>?_⟩
   have:x=y:=by simpa using hr
   subst this
   exact ⟨rfl,by simp [Instr.sameBits]⟩
 · rename_i x y
   cases h
   simp only [V] at ha hb
   obtain ⟨rfl,hx⟩:=ha
   obtain ⟨rfl,hy⟩:=hb
   rcases hd with ⟨h,_⟩ | ⟨_,rfl⟩ | ⟨h,_⟩<;>try (cases h; done)
   have hbb:∀ a b:ByteArray,(a==b)=(a.data.toList==b.data.toList):=fun a b=>by
    have:(a==b)=(a.data==b.data):=rfl
    rw [this,← Array.beq_toList]
   have hbe:(AL x==AL y)=beqN x y:=by
    rw [← Jl hx hy,hbb]; simp [AL]
   refine ⟨by simp only [Instr.sameNow]; rw [hbe],fun hr=>?_⟩
   have hxy:x=y:=by
    clear hbe hx hy
    have : ∀ {a b:List Nat},beqN a b=true→a=b:=by
     intro a
     induction a with
     | nil=>intro b h; cases b with
       | nil=>rfl
       | cons b l=>simp [beqN] at h
     | cons a l ih=>intro b h; cases b with
       | nil=>simp [beqN] at h
       | cons b m =>
         simp only [beqN,Bool.and_eq_true] at h
         rw [Nat.eq_of_beq_eq_true h.1,ih h.2]
    exact this hr
   subst hxy
   refine ⟨rfl,?_⟩
   unfold Instr.sameBits
   rw [hbb]; simp
 · rename_i x y
   cases h
   simp only [V] at ha hb
   subst ha; subst hb
   rcases hd with ⟨h,_⟩ | ⟨h,_⟩ | ⟨_,rfl⟩<;>try (cases h; done)
   refine ⟨by simp [Instr.sameNow],fun hr=>?_⟩
   have:x=y:=by simpa using hr
   subst this
   exact ⟨rfl,by simp [Instr.sameBits]⟩
theorem O9 {d:TypeDesc} {kk:Nat} {a b:AV} {av bv:Value} (hd:LZ d kk) (ha:V g s w a av) (hb:V g s w b bv) (h:Ix kk a b=some false):av≠bv:=by
 intro he
 subst he
 obtain ⟨q,_⟩:=Gl hd ha hb h
 unfold Ix at h
 split at h<;>try (cases h; done)
 · simp only [V] at ha
   subst ha
   rcases hd with ⟨_,j,rfl⟩ | ⟨h,_⟩ | ⟨h,_⟩<;>try (cases h; done)
   simp [Instr.sameNow] at q
 · simp only [V] at ha
   obtain ⟨rfl,_⟩:=ha
   rcases hd with ⟨h,_⟩ | ⟨_,rfl⟩ | ⟨h,_⟩<;>try (cases h; done)
   simp only [Instr.sameNow,Option.some.injEq] at q
   rw [(MapKept.bytes_beq _ _).2 rfl] at q
   cases q
 · simp only [V] at ha
   subst ha
   rcases hd with ⟨h,_⟩ | ⟨h,_⟩ | ⟨_,rfl⟩<;>try (cases h; done)
   simp [Instr.sameNow] at q
theorem ME {d:TypeDesc} {kk:Nat} (hd:LZ d kk) {k:AV} {kv:Value} (hk:V g s w k kv):∀ {es:List (AV×AV)} {ents:List MapEntry} {i:Nat} {r:Option AV},VM g s w es ents→Dm kk k es=some r →
    ∃ r',Instr.findNow d kv ents i=some r'∧(match r,r' with | none,none=>True | some v,some (_,vv)=>V g s w v vv | _,_=>False)
 | [],ents,i,r,hM,h=>by
   simp only [VM] at hM; subst hM
   simp only [Dm] at h; cases h
   exact ⟨none,rfl,trivial⟩
 | (a,v)::l,ents,i,r,hM,h=>by
   simp only [VM] at hM
   obtain ⟨e,rest,rfl,h1,h2,h3⟩:=hM
   simp only [Dm] at h
   split at h<;>try (cases h; done)
   · rename_i hq
     cases h
     obtain ⟨q1,_⟩:=Gl hd hk h1 hq
     exact ⟨some (i,e.val),by simp [Instr.findNow,q1],h2⟩
   · rename_i hq
     obtain ⟨q1,_⟩:=Gl hd hk h1 hq
     obtain ⟨r',k1,k2⟩:=ME hd hk (i:=i+1) h3 h
     exact ⟨r',by simp [Instr.findNow,q1,k1],k2⟩
theorem Ni {d:TypeDesc} {kk:Nat} (hd:LZ d kk) {k v:AV} {kv vv:Value} (hk:V g s w k kv) (hv:V g s w v vv):∀ {es es':List (AV×AV)} {ents:List MapEntry} {i:Nat},VM g s w es ents→updM kk k v es=some es' →
    (Instr.findNow d kv ents i=some none∧(∀ x∈ents,x.key≠kv)∧∀ c,VM g s w es' (ents++[{ key:=kv,val:=vv,born:=c }])) ∨
    (∃ j old en,Instr.findNow d kv ents i=some (some (i+j,old))∧ents[j]? = some en∧Instr.sameBits 10000 en.key kv=true∧en.key=kv∧VM g s w es' (ents.modify j fun e=>{ e with key:=kv,val:=vv }))
 | [],es',ents,i,hM,h=>by
   simp only [VM] at hM; subst hM
   simp only [updM] at h; cases h
   exact .inl ⟨rfl,fun _ h=>by simp at h,fun c=>by simp only [List.nil_append,VM]; exact ⟨_,_,rfl,hk,hv,rfl⟩⟩
 | (a, x)::l,es',ents,i,hM,h=>by
   simp only [VM] at hM
   obtain ⟨e,rest,rfl,h1,h2,h3⟩:=hM
   simp only [updM] at h
   split at h<;>try (cases h; done)
   · rename_i hq
     cases h
     obtain ⟨q1,q2⟩:=Gl hd hk h1 hq
     obtain ⟨q3,q4⟩:=q2 rfl
     refine .inr ⟨0,e.val,e,by simp [Instr.findNow,q1],rfl,q4,q3.symm,?_⟩
     simp only [List.modify_zero_cons,VM]
     refine ⟨_,_,rfl,?_,hv,h3⟩
     simp only
     rw [q3]; exact h1
   · rename_i hq
     split at h<;>try (cases h; done)
     rename_i l' hl'
     cases h
     obtain ⟨q1,_⟩:=Gl hd hk h1 hq
     rcases Ni hd hk hv (i:=i+1) h3 hl' with ⟨k1,kn,k2⟩ | ⟨j,old,en,k1,k2,k3,kq,k4⟩
     · refine .inl ⟨by simp [Instr.findNow,q1,k1],fun x hx=>?_,fun c=>?_⟩
       · rcases List.mem_cons.1 hx with rfl | hx
         · exact (O9 hd hk h1 hq).symm
         · exact kn x hx
       simp only [List.cons_append,VM]
       exact ⟨_,_,rfl,h1,h2,k2 c⟩
     · refine .inr ⟨j+1,old,en,?_,by simpa using k2,k3,kq,?_⟩
       · simp only [Instr.findNow,q1,k1]
         rw [show i+1+j=i+(j+1) by omega]
       · simp only [List.modify_succ_cons,VM]
         exact ⟨_,_,rfl,h1,h2,k4⟩
theorem HV {d:TypeDesc} {kk kt:Nat} (hd:LZ d kk) (hu:P.underlying kt=some d) (em:Bool) (v:Value):(Instr.checkKey em 10000 kt v).run P w=.ok () w:=by
 have h:∀ n,(Instr.checkKey em (n+1) kt v).run P w=.ok () w:=by
  intro n
  rcases hd with ⟨_,j,rfl⟩ | ⟨_,rfl⟩ | ⟨_,rfl⟩<;>simp [Instr.checkKey,AA hu]
 exact h 9999
theorem mkm_ok (hI:Inv CR g s w) (t:Nat):∃ v w',(Instr.makeMap t none).run P w=.ok v w'∧Good CR g s w (s.new (.map [])) (.m s.nb) v w':=by
 have hL:=Le.newBox hI (.map []) (.map #[] 0)
 refine ⟨_,w.alloc (.map #[] 0),by simp [Instr.makeMap,World.alloc_eq]; rfl,_,Inv.newBox hI _ _ ⟨#[],0,Ax w _,rfl,MapKept.stamped_empty 0⟩,hL,?_,HF _ _⟩
 simp [V,St.new,G.newBox]
def HK (z:AV) (ok:Bool):Option AV→AV
 | none=>if ok then .tup [z,.b false] else z
 | some v=>if ok then .tup [v,.b true] else v
def Py (s:St):AV→Option (List (AV×AV))
 | .nm=>some []
 | .m id=>match s.box? id with
   | some (.map es)=>some es
   | _=>none
 | _=>none
theorem Nj {t kk et:Nat} {z:AV} (hI:Inv CR g s w) (ht:keyT P t=some (kk,et)) (hz:ES P et=some z) {m k:AV} {mv kv:Value} (hm:V g s w m mv) (hk:V g s w k kv) {es:List (AV×AV)}
    (he:Py s m=some es) {r:Option AV} (hr:Dm kk k es=some r) (ok:Bool) :
    ∃ v,(Instr.lookup t mv kv ok).run P w=.ok v w∧V g s w (HK z ok r) v:=by
 obtain ⟨kt,d,hu,hd1,hd⟩:=Nh ht
 obtain ⟨zv,hz1,hz2⟩:=BS (P:=P) hz
 obtain ⟨ents,hget,hM⟩:∃ ents:Array MapEntry,((mv=.map none∧ents=#[])∨∃ b clock,mv=.map (some b)∧w.heap[b]? = some (.map ents clock))∧VM g s w es ents.toList:=by
  unfold Py at he
  split at he<;>try (cases he; done)
  · cases he
    simp only [V] at hm; subst hm
    exact ⟨#[],.inl ⟨rfl,rfl⟩,rfl⟩
  · rename_i id
    split at he<;>try (cases he; done)
    rename_i es' hb
    cases he
    simp only [V] at hm
    obtain ⟨hid,rfl⟩:=hm
    obtain ⟨ents,clock,h1,h2,_⟩:=hI.box id _ hb
    exact ⟨ents,.inr ⟨_,clock,rfl,h1⟩,h2⟩
 clear he
 obtain ⟨r',k1,k2⟩:=ME hd hk (i:=0) hM hr
 have hfind:(Instr.findKey kt kv ents.toList).run P w=.ok r' w:=by
  simp [Instr.findKey,AA hd1,k1]
 have hck:∀ em,(Instr.checkKey em 10000 kt kv).run P w=.ok () w:=fun em=>HV hd hd1 em kv
 have hval:∃ v,(do
     let (v,ok') ← (match r' with
      | some (_,v)=>pure (v,true)
      | none=>do pure (← zeroValue et,false):Sem (Value×Bool))
     pure (if ok then .tuple #[v,.bool ok'] else v):Sem Value).run P w=.ok v w∧V g s w (HK z ok r) v:=by
  cases r with
  | none =>
    cases r' with
    | some x=>exact k2.elim
    | none =>
      cases ok with
      | true=>exact ⟨.tuple #[zv,.bool false],by simp [hz1],by simp [HK,V,VL,hz2]⟩
      | false=>exact ⟨zv,by simp [hz1],by simpa [HK] using hz2 _ _ _⟩
  | some v =>
    cases r' with
    | none=>exact k2.elim
    | some x =>
      obtain ⟨i,vv⟩:=x
      cases ok with
      | true=>exact ⟨.tuple #[vv,.bool true],by simp,by simp only [HK,if_true,V,VL]; exact ⟨_,⟨_,_,rfl,k2,_,_,rfl,rfl,rfl⟩,rfl⟩⟩
      | false=>exact ⟨vv,by simp,by simpa [HK] using k2⟩
 obtain ⟨v,e1,e2⟩:=hval
 refine ⟨v,?_,e2⟩
 rw [← e1]
 rcases hget with ⟨rfl,rfl⟩ | ⟨b,clock,rfl,hb⟩
 · have hfind':(Instr.findKey kt kv []).run P w=.ok r' w:=hfind
   simp only [Instr.lookup,Sem.run_bind,AA hu,Result.andThen_ok,Sem.run_pure,hck,hfind']
   cases r'<;>simp [hz1]
 · have hgo:(getObj b).run P w=.ok (.map ents clock) w:=by simp [getObj,Sem.run,hb]
   simp only [Instr.lookup,Sem.run_bind,AA hu,Result.andThen_ok,Sem.run_pure,hgo,hck,hfind]
   cases r'<;>simp [hz1]
theorem Pz {t kk et:Nat} (hI:Inv CR g s w) (ht:keyT P t=some (kk,et)) {id:Nat} {k v:AV} {mv kv vv:Value} (hm:V g s w (.m id) mv) (hk:V g s w k kv) (hv:V g s w v vv) {es es':List (AV×AV)}
    (hb:s.box? id=some (.map es)) (hu:updM kk k v es=some es') :
    ∃ w',(Instr.mapUpdate t mv kv vv).run P w=.ok () w'∧Good CR g s w (esc (esc (s.setBox id (.map es')) id k) id v) undef Go.undef w':=by
 obtain ⟨kt,d,hu1,hd1,hd⟩:=Nh ht
 simp only [V] at hm
 obtain ⟨hid,rfl⟩:=hm
 obtain ⟨ents,clock,h1,h2,hst⟩:=hI.box id _ hb
 have hget:(getObj (g.bx id)).run P w=.ok (.map ents clock) w:=by simp [getObj,Sem.run,h1]
 have hset:∀ o,(setObj (g.bx id) o).run P w=.ok () { w with heap:=w.heap.setIfInBounds (g.bx id) o }:=by intro o; simp [setObj,Sem.run,h1]
 have hnd:w.heap[g.bx id]? ≠ some (.deferred (some [])):=by rw [h1]; intro hh; cases hh
 have fin:∀ (ents':Array MapEntry) (c':Nat),MapKept.Stamped ents' c'→(∀ g' s' w',Le g s w g' s' w'→VM g' s' w' es' ents'.toList) →
     Good CR g s w (esc (esc (s.setBox id (.map es')) id k) id v) undef Go.undef { w with heap:=w.heap.setIfInBounds (g.bx id) (.map ents' c') }:=by
  intro ents' c' hst' hM
  have e1:({ w with heap:=w.heap.setIfInBounds (g.bx id) (.map ents' c') }:World).heap.size=w.heap.size:=by simp
  have e2:∀ b,b≠g.bx id→({ w with heap:=w.heap.setIfInBounds (g.bx id) (.map ents' c') }:World).heap[b]? = w.heap[b]? := fun b hb=>by
   simp only [Array.getElem?_setIfInBounds]; rw [if_neg (Ne.symm hb)]
  have harr:Cx w { w with heap:=w.heap.setIfInBounds (g.bx id) (.map ents' c') } (g.bx id):=fun a T' f hb'=>by rw [h1] at hb'; cases hb'
  have hL:=Le.setBox (B:=.map es') hI hb rfl e1 e2 hnd harr
  have hI':=Inv.setBox (B:=.map es') hI hb rfl e1 e2 hnd harr ⟨ents',c',by simp only [Array.getElem?_setIfInBounds]; rw [if_pos trivial,if_pos (hI.lt id hid).2],hM _ _ _ hL,hst'⟩
  obtain ⟨n1,q1,q2,q3⟩:=IE (s.setBox id (.map es')) id k
  obtain ⟨n2,p1,p2,p3⟩:=IE (esc (s.setBox id (.map es')) id k) id v
  rw [p1,q1]
  have p2':n2≤n1:=by rw [q1] at p2; exact p2
  refine ⟨g,(hI'.lo n1).lo n2,(hL.trans (Le.lo n1)).trans (Le.lo n2),by simp [undef,Go.undef,V,VL],⟨Nat.le_trans p2' q2,fun nb hnb hlo jd B' hjd hB' x hx=>?_⟩⟩
  have hB2:(s.setBox id (.map es')).box? jd=some B':=hB'
  rw [setBox_box? hI.lenB hid] at hB2
  by_cases hj:jd=id
  · subst hj
    rw [if_pos rfl] at hB2; cases hB2
    obtain ⟨y,hy,hxy⟩:=hx
    have hmem:∀ {es es':List (AV×AV)},updM kk k v es=some es'→∀ y∈es',(y.1=k∨∃ z∈es,y.1=z.1)∧(y.2=v∨∃ z∈es,y.2=z.2):=by
     intro es
     induction es with
     | nil =>
       intro es' h y hy
       simp only [updM] at h; cases h
       simp only [List.mem_singleton] at hy
       subst hy
       exact ⟨.inl rfl,.inl rfl⟩
     | cons z l ih =>
       obtain ⟨a,x⟩:=z
       intro es' h y hy
       simp only [updM] at h
       split at h<;>try (cases h; done)
       · cases h
         rcases List.mem_cons.1 hy with rfl | hy
         · exact ⟨.inr ⟨(a,x),by simp,rfl⟩,.inl rfl⟩
         · exact ⟨.inr ⟨y,by simp [hy],rfl⟩,.inr ⟨y,by simp [hy],rfl⟩⟩
       · split at h<;>try (cases h; done)
         rename_i l' hl'
         cases h
         rcases List.mem_cons.1 hy with rfl | hy
         · exact ⟨.inr ⟨_,by simp,rfl⟩,.inr ⟨_,by simp,rfl⟩⟩
         · obtain ⟨i1,i2⟩:=ih hl' y hy
           exact ⟨i1.imp id fun ⟨z,hz,he⟩=>⟨z,by simp [hz],he⟩,i2.imp id fun ⟨z,hz,he⟩=>⟨z,by simp [hz],he⟩⟩
    obtain ⟨i1,i2⟩:=hmem hu y hy
    simp only at hlo
    have old:∀ z∈es,∀ a,(a=z.1∨a=z.2)→∃ B,s.box? jd=some B∧vals B a:=fun z hz a ha=>⟨_,hb,z,hz,ha⟩
    rcases hxy with rfl | rfl
    · rcases i1 with i1 | ⟨z,hz,i1⟩
      · rw [i1]
        cases hr:k.refs with
        | false=>exact .inl rfl
        | true=>have:=q3 hr; omega
      · exact .inr (old z hz _ (.inl i1))
    · rcases i2 with i2 | ⟨z,hz,i2⟩
      · rw [i2]
        cases hr:v.refs with
        | false=>exact .inl rfl
        | true=>have:=p3 hr; omega
      · exact .inr (old z hz _ (.inr i2))
  · rw [if_neg hj] at hB2
    exact .inr ⟨B',hB2,hx⟩
 simp only [Instr.mapUpdate,Sem.run_bind,AA hu1,Result.andThen_ok,hget,HV hd hd1]
 have hall:∀ g' s' w',Le g s w g' s' w'→((Instr.findNow d kv ents.toList 0=some none∧(∀ x∈ents.toList,x.key≠kv)∧∀ c,VM g' s' w' es' (ents.toList++[{ key:=kv,val:=vv,born:=c }])) ∨
     (∃ j old en,Instr.findNow d kv ents.toList 0=some (some (0+j,old))∧ents.toList[j]? = some en∧Instr.sameBits 10000 en.key kv=true∧en.key=kv∧VM g' s' w' es' (ents.toList.modify j fun e=>{ e with key:=kv,val:=vv }))) :=
  fun g' s' w' hL=>Ni hd (CY hL _ _ hk) (CY hL _ _ hv) (i:=0) (Qa hL _ _ h2) hu
 rcases hall g s w (Le.refl _ _ _) with ⟨k1,kn,_⟩ | ⟨j,old,en,k1,k2,k3,kq,_⟩
 · have hfind:(Instr.findKey kt kv ents.toList).run P w=.ok none w:=by simp [Instr.findKey,AA hd1,k1]
   simp only [hfind,Result.andThen_ok]
   refine ⟨_,hset _,fin _ _ (MapKept.stamped_push hst kn) fun g' s' w' hL=>?_⟩
   rcases hall g' s' w' hL with ⟨_,_,m2⟩ | ⟨j,old,en,m1,_⟩
   · simpa using m2 clock
   · rw [k1] at m1; cases m1
 · have hfind:(Instr.findKey kt kv ents.toList).run P w=.ok (some (0+j,old)) w:=by simp [Instr.findKey,AA hd1,k1]
   simp only [hfind,Result.andThen_ok,Nat.zero_add]
   have hkey:(Instr.keyThatStays (((ents[j]?).map (·.key)).getD kv) kv).run P w=.ok kv w:=by
    have:ents[j]? = some en:=by simpa using k2
    simp only [this,Option.map_some,Option.getD_some,Instr.keyThatStays]
    rw [if_pos k3]
    rfl
   simp only [Sem.run_bind,hkey,Result.andThen_ok]
   refine ⟨_,hset _,fin _ _ (MapKept.stamped_modify hst _ _ (fun _ _=>rfl) fun e he hj=>?_) fun g' s' w' hL=>?_⟩
   · have hen:ents[j]? = some en:=by simpa using k2
     rw [hen] at hj; cases hj
     exact kq.symm
   rcases hall g' s' w' hL with ⟨m1,_⟩ | ⟨j',old',en',m1,m2,m3,_,m4⟩
   · rw [k1] at m1; cases m1
   · rw [k1] at m1
     have:j'=j:=by simp at m1; omega
     subst this
     simpa [Array.toList_modify] using m4
end Go.Proofs.Ytfpoihibfajhlaa.Am

namespace Go.Proofs.Ytfpoihibfajhlaa.Am
variable {CR:Nat→Code→C→Prop} {P:Program} {g:G} {s s':St} {w:World}
theorem NW (hI:Inv CR g s w) {id T:Nat} {l:List AV} (hb:s.box? id=some (.cells T l)):w.shape? (g.bx id)=some (T,l.length):=by
 obtain ⟨arr,h1,h2⟩:=hI.box id _ hb
 have hl:=h2.length
 simp only [World.shape?,h1]
 simp at hl
 rw [hl]
theorem NX {t n:Nat} (hn:A5 P t=some n):∃ j,P.info? t=some j∧j.size=n:=by
 unfold A5 at hn
 split at hn
 · rename_i i hi; cases hn; exact ⟨i,hi,rfl⟩
 · cases hn
theorem cvU_ok (hI:Inv CR g s w) {src dst t n:Nat} (hsd:(P.underlying src=some (.pointer t)∧P.underlying dst=some .unsafePointer)∨(P.underlying src=some .unsafePointer∧P.underlying dst=some (.pointer t)))
    (hn:A5 P t=some (n+1)) (hlies:liesAt P P.depth t 1 0 t 1=true) (hc:P.cellsOf t=n+1) {id:Nat} {l:List AV} (hb:s.box? id=some (.cells t l)) (hl:l.length=n+1) {xv:Value} (hx:V g s w (.p id 0) xv) :
    (convert src dst xv).run P w=.ok xv w:=by
 simp only [V] at hx
 obtain ⟨_,rfl⟩:=hx
 obtain ⟨j,hj,hjs⟩:=NX hn
 have hsh:=NW hI hb
 rcases hsd with ⟨h1,h2⟩ | ⟨h1,h2⟩
 · exact Lib.run_to_unsafe (P:=P) w ⟨g.bx id,0,none⟩ h1 h2 hj (by omega) hsh (by simp only; omega)
 · refine Lib.run_from_unsafe (P:=P) w ⟨g.bx id,0,none⟩ h1 h2 hj hsh ?_
   simp only
   rw [hl,hc,Nat.div_self (by omega)]
   exact hlies
theorem ud_ok {c:Array TypeId} {ty:TypeId} {x r:AV} {xv:Value} (hx:V g s w x xv) (h:udA s x=some (r,s')):∃ v,(Builtin.unsafeSliceData_ c ty #[xv]).run P w=.ok v w∧V g s w r v∧s'=s:=by
 unfold udA at h
 split at h<;>try (cases h; done)
 · cases h
   simp only [V] at hx; subst hx
   exact ⟨_,rfl,by simp [V],rfl⟩
 · rename_i a l k v
   cases h
   simp only [V] at hx
   obtain ⟨b,o,cap,vs,rfl,h0,ha,hk,hv⟩:=hx
   refine ⟨_,Lib.run_unsafeSliceData_row (P:=P) w c ty ⟨b,o,none⟩ _ cap (by have:=h0.2; simp at this; omega),?_,rfl⟩
   simp only [V]
   exact ⟨b,o,cap,vs,rfl,⟨Nat.le_refl _,h0.2⟩,ha,hk,hv⟩
theorem cp0_ok {c:Array TypeId} {ty:TypeId} {t e n:Nat} (hc:c[0]? = some t) (hu:P.underlying t=some (.slice e)) (hn:A5 P e=some n) {x y:AV} {xv yv:Value} (hx:V g s w x xv) (hy:V g s w y yv) {k k':IntKind} {a b:Int}
    (ha:lenA s 1 x=some (.i k a)) (hb:lenA s 1 y=some (.i k' b)) (h0:a=0∨b=0):(Builtin.copy_ c ty #[xv,yv]).run P w=.ok (.int .i64 0) w:=by
 have hlen:∀ {x:AV} {xv:Value} {k:IntKind} {a:Int},V g s w x xv→lenA s 1 x=some (.i k a)→∃ base len cap,xv=.slice base len cap∧a=Int.ofNat len:=by
  intro x xv k a hx ha
  unfold lenA at ha
  split at ha<;>try (cases ha; done)
  · rename_i heq; cases heq
  · cases ha
    simp only [V] at hx
    exact ⟨_,_,_,hx,rfl⟩
  · cases ha
    simp only [V] at hx
    obtain ⟨_,rfl⟩:=hx
    exact ⟨_,_,_,rfl,rfl⟩
  · cases ha
    simp only [V] at hx
    obtain ⟨b,o,cap,vs,rfl,_⟩:=hx
    exact ⟨_,_,_,rfl,rfl⟩
  · cases ha
    simp only [V] at hx
    rcases hx with ⟨rfl,rfl⟩ | ⟨⟨_,rfl⟩,rfl⟩ | ⟨b,o,cap,vs,rfl,_⟩
    · exact ⟨_,_,_,rfl,rfl⟩
    · exact ⟨_,_,_,rfl,rfl⟩
    · exact ⟨_,_,_,rfl,rfl⟩
  · cases ha
    simp only [V] at hx
    obtain ⟨o,cap,rfl,_⟩:=hx
    exact ⟨_,_,_,rfl,rfl⟩
  · rename_i heq; cases heq
  · rename_i heq; cases heq
 obtain ⟨b1,l1,c1,rfl,rfl⟩:=hlen hx ha
 obtain ⟨b2,l2,c2,rfl,rfl⟩:=hlen hy hb
 have hmin:Nat.min l2 l1=0:=by
  rcases h0 with h0 | h0
  · have:l1=0:=by simpa using h0
    subst this; exact Nat.min_zero l2
  · have:l2=0:=by simpa using h0
    subst this; exact Nat.zero_min l1
 have e0:(#[(.slice b1 l1 c1:Value),.slice b2 l2 c2]:Array Value)[0]? = some (.slice b1 l1 c1):=rfl
 have e1:(#[(.slice b1 l1 c1:Value),.slice b2 l2 c2]:Array Value)[1]? = some (.slice b2 l2 c2):=rfl
 have hlo:(Builtin.lenOf (.slice b2 l2 c2)).run P w=.ok l2 w:=by simp [Builtin.lenOf]
 simp only [Builtin.copy_,hc,e0,e1,Sem.run_bind,AA hu,Result.andThen_ok,hlo,Ae hn,hmin]
 have hf:(Builtin.firstCells n 0 (.slice b2 l2 c2)).run P w=.ok #[] w:=by
  cases b2 with
  | none=>simp [Builtin.firstCells]
  | some a =>
    simp only [Builtin.firstCells,Nat.zero_mul]
    simp [loadCells,loadCellsFrom]
 rw [hf]
 cases b1 with
 | none=>simp [goInt]
 | some a=>simp [storeCells,goInt]
theorem IC:∀ (n t:Nat) (acc:Array Value),(∀ v∈acc.toList,∃ k m,v=.int k m)→∀ v∈(Extern.BytealgMakeNoZero.digits n t acc).toList,∃ k m,v=.int k m
 | 0,_,_,h=>h
 | n+1,t,acc,h=>by
   rw [Extern.BytealgMakeNoZero.digits]
   refine IC n _ _ fun v hv=>?_
   simp only [Array.toList_push,List.mem_append,List.mem_singleton] at hv
   rcases hv with hv | rfl
   · exact h v hv
   · exact ⟨_,_,rfl⟩
theorem Pu:∀ {vs:List Value},(∀ v∈vs,∃ k m,v=.int k m)→VL g s w (List.replicate vs.length .any) vs
 | [],_=>by simp [VL]
 | v::vs,h=>by
   simp only [List.length_cons,List.replicate_succ,VL]
   exact ⟨v,vs,rfl,by simp only [V]; exact h v (by simp),Pu fun u hu=>h u (by simp [hu])⟩
theorem I8:∀ n:Nat,AY 1 (List.replicate n .any)=true
 | 0=>rfl
 | n+1=>by
   simp only [List.replicate_succ,AY,AV.cells,List.length_cons,List.length_nil,I8 n]
   rfl
theorem Kh:∀ {vs:List Value},(∀ v∈vs,∃ k m,v=.int k m)→flat vs=vs
 | [],_=>rfl
 | v::vs,h=>by
   obtain ⟨k,m,rfl⟩:=h v (by simp)
   rw [B6,Kh fun u hu=>h u (by simp [hu])]
   rfl
theorem mnz_ok (hI:Inv CR g s w) {t e:Nat} (ht:P.underlying t=some (.slice e)) (ps:Array TypeId) {n:Int} (h0:0≤n) (h1:n < 2^38) :
    ∃ v w',(Extern.BytealgMakeNoZero.makeNoZero ps #[t] #[.int .i64 n]).run P w=.ok v w'∧Good CR g s w (s.newTok n.toNat (some e)) (.sl 1 (List.replicate n.toNat .any) (.tok s.nt 0)) v w':=by
 obtain ⟨m,rfl⟩:=Int.eq_ofNat_of_zero_le h0
 have hm:m < 2^38:=by omega
 obtain ⟨q,hq,hdef⟩:∃ q:Question,Question.forced q=false∧Extern.BytealgMakeNoZero.makeNoZero ps #[t] #[.int .i64 m] =
     (do
      let .slice elem ← underlying t | stuck "bytealg.MakeNoZero: slice type expected"
      if (m:Int) < 0||(m:Int) > 2^48 then runtimePanic (.error "makeslice: len out of range")
      let cap ← choose (.appendCap (m:Int).toNat 0 elem)
      askRoom cap
      let bytes ← choose q
      let a ← newRow elem (Extern.BytealgMakeNoZero.digits cap bytes #[])
      pure (.slice (some a) (m:Int).toNat cap)):=⟨_,rfl,rfl⟩
 have hrun:∃ (bytes dr:Nat),(Extern.BytealgMakeNoZero.makeNoZero ps #[t] #[.int .i64 m]).run P w=.ok (.slice (some ⟨w.heap.size,0,none⟩) m (grownCap w m 0 e)) ({ w with drawn:=dr }.alloc (.cells (Extern.BytealgMakeNoZero.digits (grownCap w m 0 e) bytes #[]) e)):=by
  have k1:¬ (m:Int) < 0:=by omega
  have k2:¬ (281474976710656:Int) < (m:Int):=by omega
  refine ⟨q.cut (w.tape (w.drawn+1) q),w.drawn+1+1,?_⟩
  rw [hdef]
  have ha:Question.forced (.appendCap (m:Int).toNat 0 e)=false:=rfl
  simp [AA ht,k1,k2,hq,ha,newRow,Lib.size_digits,grownCap]
  rfl
 obtain ⟨bytes,dr,hrun⟩:=hrun
 obtain ⟨cs,hcs⟩:∃ cs,cs=Extern.BytealgMakeNoZero.digits (grownCap w m 0 e) bytes #[]:=⟨_,rfl⟩
 have hints:∀ v∈cs.toList,∃ k q,v=.int k q:=by rw [hcs]; exact IC _ _ _ (by simp)
 have hsz:cs.size=grownCap w m 0 e:=by rw [hcs,Lib.size_digits]; simp
 have hle:m≤cs.size:=by rw [hsz]; exact grownCap_ge w m 0 e
 rw [← hcs,← hsz] at hrun
 refine ⟨_,_,hrun,?_⟩
 have hdr:Le g s w g s { w with drawn:=dr }:=Le.heap rfl
 have hIdr:Inv CR g s { w with drawn:=dr }:=Inv.heap (w:=w) rfl hI
 have htake:∀ v∈cs.toList.take m,∃ k q,v=.int k q:=fun v hv=>hints v (List.mem_of_mem_take hv)
 have hlen:(cs.toList.take m).length=m:=by rw [List.length_take,Array.length_toList]; omega
 have hV:=Pu (g:=g) (s:=s) (w:={ w with drawn:=dr }) htake
 rw [hlen] at hV
 have hg:=CX (CR:=CR) hIdr (es:=1) (cap:=cs.size) (Nat.le_refl 1) (I8 m) hV (arr:=cs) e (rest:=cs.toList.drop m) (by rw [Kh htake,List.take_append_drop]) (by simpa using hle) (by omega) (ty:=some e) (fr:=(0,0)) (fun x _=>by simp only; omega) (fun T' hT=>⟨by cases hT; rfl,rfl⟩)
 simp only [List.length_replicate] at hg
 exact Good.from hdr (Esc.refl _) hg
/-! ### A row of bytes taken for a text -/
theorem DW (w:World) {a:Addr} {n b:Nat} (h:b≠a.block):(w.freeze a n).heap[b]? = w.heap[b]? := by
 unfold World.freeze
 split
 · rfl
 · simp only [Array.getElem?_modify]
   rw [if_neg (Ne.symm h)]
theorem Dj {w:World} {a:Addr} {n:Nat} (hn:n≠0) {c:Array Value} {T:Nat} {lo hi:Nat} (h:w.heap[a.block]? = some (.cells c T (lo,hi))) :
    (w.freeze a n).heap[a.block]? = some (.cells c T (if lo==hi then (a.off,a.off+n) else (min lo a.off,max hi (a.off+n)))):=by
 unfold World.freeze
 rw [if_neg hn]
 simp only [Array.getElem?_modify,if_pos,h,Option.map_some]
theorem cell?_freeze (w:World) (a:Addr) (n:Nat) (x:Addr):(w.freeze a n).cell? x=w.cell? x:=by
 by_cases hb:x.block=a.block
 · by_cases hn:n=0
   · unfold World.freeze; rw [if_pos hn]
   · cases h:w.heap[a.block]? with
     | none =>
       have:(w.freeze a n).heap[a.block]? = none:=by
        unfold World.freeze
        rw [if_neg hn]
        simp [Array.getElem?_modify,h]
       simp only [World.cell?,hb,h,this]
     | some o =>
       cases o with
       | cells c T fr =>
         obtain ⟨lo,hi⟩:=fr
         simp only [World.cell?,hb,Dj hn h,h]
       | _ =>
         have:(w.freeze a n).heap[a.block]? = w.heap[a.block]? := by
          unfold World.freeze
          rw [if_neg hn]
          simp [Array.getElem?_modify,h]
         simp only [World.cell?,hb,this,h]
 · simp only [World.cell?,DW w hb]
theorem DX (w:World) (a:Addr) (n:Nat):(w.freeze a n).heap.size=w.heap.size:=by
 unfold World.freeze
 split<;>simp
section froze
variable {k:Nat} {t:Tok} (hI:Inv CR g s w) (ht:s.tok? k=some t) {n:Nat} (hn:n≤t.front) (hes:(g.tk k).es=1) (hn0:n≠0) {T0:Nat} (hty:t.ty=some T0)
include hI ht hn hes hn0 hty
theorem Le.froze:Le g s w g (s.setTok k ⟨t.front,t.ver,t.front,t.ty⟩) (w.freeze ⟨(g.tk k).blk,0,none⟩ n):=by
 have hL:=Le.pop (n:=t.front) hI ht
 have hblk:=(hI.tok k t ht).base
 have hother:∀ b,b≠(g.tk k).blk→(w.freeze ⟨(g.tk k).blk,0,none⟩ n).heap[b]? = w.heap[b]? := fun b hb=>DW w hb
 obtain ⟨arr,T,fr,r1,_,_⟩:=(hI.tok k t ht).row
 exact {
  own:=fun _ _ h=>h
  frame:=fun b _ ho=>⟨hother b fun he=>ho (.inr ⟨k,tok?_lt ht,he.symm⟩),rfl⟩
  base:=rfl
  size:=by rw [DX]; exact Nat.le_refl _
  low:=fun b hb=>hother b (by omega)
  prot:=fun _=>Nat.le_refl _
  cell:=fun b off v _ hc=>by rw [cell?_freeze]; exact hc
  dfr:=fun b hb=>by
   rw [hother b (fun h=>by subst h; rw [r1] at hb; cases hb)]; exact hb
  arr:=fun b a' T' f' hb=>by
   by_cases he:b=(g.tk k).blk
   · subst he
     obtain ⟨lo,hi⟩:=f'
     exact ⟨_,_,Dj hn0 hb,rfl⟩
   · exact ⟨a',f',(hother b he).trans hb,rfl⟩
  nb:=Nat.le_refl _
  bx:=fun _ _=>rfl
  nt:=Nat.le_refl _
  has:=fun j v t' hk h=>by
   rw [setTok_tok? hI.lenT (tok?_lt ht)] at h
   by_cases hj:j=k
   · subst hj; rw [if_pos rfl] at h; cases h
     have:=hk.2 t ht; simp only; omega
   · rw [if_neg hj] at h; exact hk.2 _ h
  ok := fun j v hk h=>by
   rw [EL] at h ⊢
   obtain ⟨t',h,hv⟩:=h
   rw [setTok_tok? hI.lenT (tok?_lt ht)] at h
   by_cases hj:j=k
   · subst hj; rw [if_pos rfl] at h; cases h
     exact ⟨t,ht,hv⟩
   · rw [if_neg hj] at h; exact ⟨t',h,hv⟩
  tok:=fun j t1 t' hj h1 h' hv=>by
   refine ⟨fun off x _ hc=>by rw [cell?_freeze]; exact hc,.inl ⟨rfl,?_⟩⟩
   rw [setTok_tok? hI.lenT (tok?_lt ht)] at h'
   by_cases hjk:j=k
   · subst hjk; rw [if_pos rfl] at h'; cases h'
     obtain rfl:=Option.some.inj (ht.symm.trans h1)
     exact Nat.le_refl _
   · rw [if_neg hjk,h1] at h'; cases h'; exact Nat.le_refl _
  io:=by unfold World.freeze; rw [if_neg hn0]; exact ⟨rfl,rfl⟩ }
theorem Inv.froze:Inv CR g (s.setTok k ⟨t.front,t.ver,t.front,t.ty⟩) (w.freeze ⟨(g.tk k).blk,0,none⟩ n):=by
 have hL:=Le.froze hI ht hn hes hn0 hty
 have hother:∀ b,b≠(g.tk k).blk→(w.freeze ⟨(g.tk k).blk,0,none⟩ n).heap[b]? = w.heap[b]? := fun b hb=>DW w hb
 exact {
  lenB:=hI.lenB
  lenT:=by simp [St.setTok,hI.lenT]
  base:=by rw [DX]; exact hI.base
  fresh:=by rw [DX]; exact hI.fresh
  lt:=by rw [DX]; exact hI.lt
  pr:=hI.pr
  box:=fun id b hb=>by
   cases hl:b.live with
   | false=>cases b<;>simp [Box.live] at hl; trivial
   | true=>exact (hI.box id b hb).mono hL (hother _ (hI.btk id b k t hb hl ht))
  inj:=hI.inj
  tlt:=by rw [DX]; exact Je hI ht
  tok:=fun j t' h=>by
   rw [setTok_tok? hI.lenT (tok?_lt ht)] at h
   by_cases hj:j=k
   · subst hj; rw [if_pos rfl] at h; cases h
     have h0:=hI.tok j t ht
     obtain ⟨arr,T,fr,r1,r2,r3,r4⟩:=h0.row
     obtain ⟨lo,hi⟩:=fr
     obtain ⟨r5,r6⟩:=r4 T0 hty
     have hp:=h0.prot
     have hpub:=h0.pub
     refine { base:=h0.base,es:=h0.es,prot:=?_,pub:=Nat.le_refl _,cap:=h0.cap,row:=⟨arr,T,_,Dj hn0 r1,r2,fun x hx hx2=>?_,fun T' hT=>⟨(r4 T' hT).1,?_⟩⟩ }
     · have:=Nat.mul_le_mul_right (g.tk j).es hpub
       simp only; omega
     · rw [hes] at hx r6
       simp only at hx r6 ⊢
       split<;>simp only<;>omega
     · rw [hes] at r6 ⊢
       simp only at r6 ⊢
       split<;>simp only<;>omega
   · rw [if_neg hj] at h
     exact (hI.tok j t' h).heap (hother _ (fun he=>hj (hI.tinj j k _ _ h ht he)))
  tall:=by rw [DX]; exact hI.tall
  tinj:=Hl hI ht
  btk:=Jf hI ht }
end froze
theorem us_ok (hI:Inv CR g s w) {pt it ty e:Nat} (hp:P.underlying pt=some (.pointer e)) (hc:P.cellsOf e=1) {x n r:AV} {xv nv:Value} (hx:V g s w x xv) (hnv:V g s w n nv) (h:usA s e x n=some (r,s')) :
    ∃ v w',(Builtin.unsafeString_ #[pt,it] ty #[xv,nv]).run P w=.ok v w'∧Good CR g s w s' r v w':=by
 unfold usA at h
 split at h<;>try (cases h; done)
 · split at h<;>try (cases h; done)
   rename_i hn
   subst hn
   cases h
   simp only [V] at hx hnv
   subst hx; subst hnv
   refine ⟨_,w,Lib.run_unsafeString_none (P:=P) w pt it ty none,AH hI ?_⟩
   simp only [V]
   exact ⟨rfl,by simp⟩
 · rename_i l k u n
   split at h<;>try (cases h; done)
   rename_i t bs ht hbs
   split at h<;>try (cases h; done)
   rename_i hcond
   obtain ⟨hver,hty,hfront,hn,hl1,hl2⟩:=hcond
   cases h
   subst hn
   simp only [V] at hx hnv
   subst hnv
   obtain ⟨b,o,cap,vs,rfl,h0,ha,hk,hv⟩:=hx
   obtain ⟨k1,k2,k3,k4⟩:=hv (EL.2 ⟨t,ht,hver⟩)
   obtain ⟨c0,ces,ccap,ctok⟩:=k4
   obtain ⟨cle,ceq⟩:=ctok t ht
   have htk:=ceq hfront
   obtain ⟨arr,T,fr,r1,r2,r3,r4⟩:=(hI.tok k t ht).row
   rw [htk] at r1 r2
   have hTe:=(r4 e hty).1
   simp only at r1 r2
   obtain ⟨q1,q2,q3⟩:=Gk k1 hbs
   have hfl:flat vs=vs:=by rw [q1,HI]
   rw [hfl,q1] at k2
   subst c0
   have hsh:w.shape? b=some (e,arr.size):=by simp only [World.shape?,r1,hTe]
   have hblen:(bs.map UInt8.ofNat).length=l.length:=by simp [q3]
   have hrun:=Lib.run_unsafeString_row (P:=P) w pt it ty e hp hc b arr.size hsh (bs.map UInt8.ofNat) (by intro hh; have:=congrArg List.length hh; rw [hblen,List.length_nil] at this; omega) (by rw [hblen]; simp only [Nat.mul_one] at r2; have:=h0.2; omega) (by rw [hblen]; omega)
    (fun j x hj=>by
     rw [List.getElem?_map,Option.map_eq_some_iff] at hj
     obtain ⟨y,hy,rfl⟩:=hj
     have:=k2 j (.int .u8 (Int.ofNat y)) (by rw [List.getElem?_map,hy]; rfl)
     have hlt:=q2 y (List.mem_of_getElem? hy)
     rw [Ck,this,show (UInt8.ofNat y).toNat=y by rw [UInt8.toNat_ofNat']; omega]
     rfl)
   rw [hblen] at hrun
   have hblk:(⟨b,0,none⟩:Addr)=⟨(g.tk k).blk,0,none⟩:=by rw [htk]
   have hes1:(g.tk k).es=1:=by rw [htk]
   refine ⟨_,_,hrun,?_⟩
   rw [hblk]
   refine ⟨g,Inv.froze hI ht (by omega) hes1 (by omega) hty,Le.froze hI ht (by omega) hes1 (by omega) hty,?_,Esc.tok _ _ rfl rfl rfl⟩
   simp only [V]
   exact ⟨rfl,q2⟩
end Go.Proofs.Ytfpoihibfajhlaa.Am
