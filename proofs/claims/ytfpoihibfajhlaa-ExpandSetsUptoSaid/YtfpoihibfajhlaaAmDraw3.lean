/-
  Every operation of the model does what the abstract machine's does.
-/
import Derived.Test.YtfpoihibfajhlaaAmOps10
import Derived.RangeFuncLeaves
import Derived.Test.YtfpoihibfajhlaaAmOps2
import Derived.Laws.Externs
set_option linter.all false
set_option linter.unusedVariables false
set_option linter.unusedSimpArgs false
set_option linter.unusedSectionVars false
namespace Go.Proofs.Ytfpoihibfajhlaa.Am
def Ee (rd:Option Nat):Fence:={ Fence.wide with round:=rd }
theorem IT {rd:Option Nat} {n:Nat} {P:Program} {f:FuncId} {args:Array Value} {w:World} {R:Ending→World→Prop} (h:Calls P f args w R):CallsIn (Ee rd) n P f args w R :=
 callsIn_wide.2 h
def Does (rd:Option Nat) (P:Program) (o:Oper) (a:Act) (w:World) (K:Value→World→Prop):Prop :=
 ∀ (next:Act→World→Prop) (Q:Exit→Act→World→Prop),(∀ v w',K v w'→next (a.put o.dst v) w')→o.wpIn (Ee rd) 0 P a w next Q
section
variable {rd:Option Nat} {P:Program} {o:Oper} {a:Act} {w w':World} {K:Value→World→Prop}
theorem Jo (hd:∀ c,o.op≠.defer c) (h:∀ (next:Act→World→Prop) (Q:Exit→Act→World→Prop),(∀ v w',K v w'→next (a.put o.dst v) w')→o.uponIn (Ee rd) 0 P a next Q ((execOp a.eval o).run P w)):Does rd P o a w K:=by
 intro next Q hn
 refine ⟨fun _ _=>trivial,?_⟩
 rw [Oper.semAt_eq _ _ _ hd]
 exact h next Q hn
theorem AG (hd:∀ c,o.op≠.defer c) {v:Value} (h:(execOp a.eval o).run P w=.ok (.value v) w') (hk:K v w'):Does rd P o a w K :=
 Jo hd fun next Q hn=>by rw [h]; exact hn v w' hk
theorem Gq (hd:∀ c,o.op≠.defer c) (h:(execOp a.eval o).run P w=.ok .skip w') (hk:K Go.undef w'):Does rd P o a w K :=
 Jo hd fun next Q hn=>by rw [h]; exact hn _ w' hk
theorem Ef (hd:∀ c,o.op≠.defer c) {f:FuncId} {args:Array Value} (h:(execOp a.eval o).run P w=.ok (.enter f args) w') (hk:Calls P f args w' fun e w''=>∃ v,e=.returned v∧K v w''):Does rd P o a w K :=
 Jo hd fun next Q hn=>by
  rw [h,Oper.uponIn_enter]
  refine ⟨(fun hh=>by cases hh),IT (hk.mono ?_)⟩
  rintro e w'' ⟨v,rfl,hv⟩
  exact hn v w'' hv
theorem Mx (hd:∀ c,o.op≠.defer c) {l:Nat} {f:FuncId} {tmps:Array Value} {x y:Code} (h:(execOp a.eval o).run P w=.ok (.round l f tmps x y) w')
    (hk:RoundIn (Ee rd) 0 P l f tmps x y w' fun e w''=>∃ v,e=.returned v∧K v w''):Does rd P o a w K :=
 Jo hd fun next Q hn=>by
  rw [h,Oper.uponIn_round]
  refine ⟨(fun hh=>by cases hh),hk.mono ?_⟩
  rintro e w'' ⟨v,rfl,hv⟩
  exact hn v w'' hv
end
def CRof (P:Program) (gt:Nat→Option (List AV)):Nat→Code→C→Prop:=fun n code c=>n < 1000∧noRf code=true∧∃ pops,Bz P gt pops n code=c
def E5:Ex→Exit→Prop
 | .n,.normal=>True
 | .x i,.exit j=>i=j
 | .r,.ret=>True
 | _,_=>False
def BT (P:Program) (gt:Nat→Option (List AV)) (g:G) (s:St) (w:World) (rd:Option Nat) (a:Act) (x:Ex) (e':Tr) (s':St):Exit→Act→World→Prop :=
 fun ex a' w'=>E5 x ex∧a'.tmps.size=a.tmps.size∧(∃ g',Inv (CRof P gt) g' s' w'∧Le g s w g' s' w'∧VT g' s' w' e' a'.tmps∧Esc s s') ∧
  (rd.isSome=true→a'.defers=a.defers)∧∃ ds,a'.defers=ds++a.defers∧(∀ d∈ds,∃ r,d={ target:=.collected r,args:=#[] }∧w.heap.size≤r∧w'.heap[r]? = some (.deferred (some [])))∧ds.Pairwise (fun d d'=>d≠d')
def My (r:Nat) (e:Array Value→Sem Value) (P:Program):Prop :=
 match r with
 | 0=>∀ (l:List Nat) (c:Nat) (w:World),(∀ n∈l,n < 256)→c < 256→(e #[.string (AL l),.int .u8 (Int.ofNat c)]).run P w=.ok (.int .i64 (idxB c 0 l)) w
 | 1=>∀ v w,(e #[v]).run P w=.ok v w
 | _=>False
def JF (P:Program) (gt:Nat→Option (List AV)) (f:Nat) (p:List AV→St→Option (AV×St)):Prop :=
 (∃ F b,P.funcs[f]? = some F∧F.body=some b)∧∀ args s r s',p args s=some (r,s')→∀ g w vs,Inv (CRof P gt) g s w→GT gt g w→VL g s w args vs →
  Calls P f vs.toArray w fun e w'=>∃ v,e=.returned v∧Good (CRof P gt) g s w s' r v w'
def Ql (P:Program) (gt:Nat→Option (List AV)) (f:Nat) (fn:Fun):Prop :=
 (fn.prim=none∧∃ F pops raw,P.funcs[f]? = some F∧compF P gt fn.keep raw pops F=some fn)∨∃ p,fn.prim=some p∧JF P gt f p
structure Ctx (P:Program) (gt:Nat→Option (List AV)) (prog:Nat→Option Fun):Prop where
 prims:∀ (f:Nat) (fn:Fun) p,prog f=some fn→fn.prim=some p→JF P gt f p
 fns:∀ (f:Nat) (fn:Fun),prog f=some fn→fn.prim=none→∃ F pops raw,P.funcs[f]? = some F∧compF P gt fn.keep raw pops F=some fn
 ext:∀ (f:Nat) (F:Func) (r:Nat),P.funcs[f]? = some F→F.body=none→externRow F.name=some r→(F.name=="runtime.NumGoroutine")=false∧Extern.findNext F=none∧∃ e,Extern.find F=some e∧My r e P
 mixed:P.follows .mixedOrders=true
 ovl:∀ (f:Nat) (F:Func),P.funcs[f]? = some F→F.body=none→NB F=true→Extern.findNext F=none∧Extern.find F=some (Extern.SlicesOverlaps.overlaps F.params F.resultTypes)
 mnz:∀ (f:Nat) (F:Func),P.funcs[f]? = some F→F.body=none→F.name=G6→Extern.findNext F=none∧Extern.find F=some (Extern.BytealgMakeNoZero.makeNoZero F.params F.resultTypes)
def Dq (F:Fence) (n:Nat) (P:Program) (c:Code) (Q:Exit→Act→World→Prop) (a:Act) (w:World):Prop :=
 ∀ (b:Frame) (k:List Item) (cs:List Frame),b.roundOf=F.round→F.fn b.fn→F.room (cs.length+1+n) →
  ∃ e a' w',Q e a' w'∧ArrivesIn (Machine.fenced P F) P (lone (b.atR a (.code c::.inLoop c::k)) cs w) b k cs e a' w'
structure SelfOk (P:Program) (gt:Nat→Option (List AV)) (sf:Self):Prop where
 call:∀ f args s r s',sf.call f args s=some (r,s')→∀ g w vs,Inv (CRof P gt) g s w→GT gt g w→VL g s w args vs →
  Calls P f vs.toArray w fun e w'=>∃ v,e=.returned v∧Good (CRof P gt) g s w s' r v w'
 code:∀ c e s x e' s',sf.code c e s=some (x,e',s')→∀ n pops code,n < 1000→Bz P gt pops n code=c→∀ g w rd a,(rd.isSome=true→noRf code=true)→Inv (CRof P gt) g s w→GT gt g w→VT g s w e a.tmps→a.tmps.size=n →
  code.wpIn (Ee rd) 0 P (BT P gt g s w rd a x e' s') a w∧∀ b,code=.loop b→Dq (Ee rd) 0 P b (BT P gt g s w rd a x e' s') a w
 body:∀ (f:Nat) args s r s',sf.call f args s=some (r,s')→∃ F b,P.funcs[f]? = some F∧F.body=some b
section ops
variable {rd:Option Nat} {P:Program} {gt:Nat→Option (List AV)} {g:G} {s s':St} {w:World} {e:Tr} {a:Act} {o:Oper} {r:AV}
theorem IU (hG:GT gt g w) (hT:VT g s w e a.tmps) {x:Option Operand} {y:Option X} (h:cvO gt x=some y):VO g s w (optX e y) (x.map a.eval):=by
 cases x with
 | none=>simp only [cvO] at h; cases h; simp [optX,VO]
 | some x =>
   simp only [cvO] at h
   split at h
   · rename_i y' h1; cases h; simp only [optX,VO,Option.map_some]; exact AM hG hT h1
   · cases h
theorem Qm {n:Int} {c:Nat} (h:c∈encN n):c < 256:=by
 simp only [encN,List.mem_map] at h
 obtain ⟨x,_,rfl⟩:=h
 exact x.toNat_lt
theorem Kp (n:Int):AL (encN n)=Utf8.encode n:=by
 have:AL (encN n)=⟨(Utf8.encode n).data.toList.toArray⟩:=by simp [AL,encN,Function.comp_def]
 rw [this]
theorem Aj {sem:Sem Value} {v:Value} {w':World} (h:sem.run P w=.ok v w'):((do pure (.value (← sem)):Sem Next)).run P w=.ok (.value v) w':=by simp [h]
theorem DZ {v:Option AV} (h:ret1 s v=some (r,s')):v=some r∧s'=s:=by
 unfold ret1 at h
 split at h
 · cases h; exact ⟨rfl,rfl⟩
 · cases h
theorem JG {w:World}:∀ {fs:List Field} {pl:List (Nat×Nat)},Ht.go P fs=some pl→(fs.mapM (fun f=>do pure (f.offset,← sizeOf f.type)):Sem (List (Nat×Nat))).run P w=.ok pl w
 | [],pl,h=>by simp only [Ht.go] at h; cases h; simp
 | f :: fs,pl,h=>by
   simp only [Ht.go] at h
   split at h
   · rename_i k r h1 h2
     cases h
     simp only [List.mapM_cons,Sem.run_bind,Ae h1,Result.andThen_ok,Sem.run_pure,JG h2]
   · cases h
theorem PD (hI:Inv (CRof P gt) g s w) (hG:GT gt g w) (hT:VT g s w e a.tmps) {t:Nat} {z:AV} {pl:List (Nat×Nat)} {parts:Array (Nat×Operand)} {ps:List (Nat×Nat×X)} {m:List AV}
    (hz:ES P t=some z) (hp:Ht P t=some pl) (hps:G5 gt pl parts.toList=some ps) (h:Cj e s ps z.cells=some (m,s')) :
    ∃ v,(Instr.build t (parts.map fun (i,x)=>(i,a.eval x))).run P w=.ok v w∧Good (CRof P gt) g s w s' (.agg m) v w:=by
 obtain ⟨zv,hz1,hz2⟩:=BS (P:=P) hz
 have hpl:(parts.map fun (i,x)=>(i,a.eval x)).toList=parts.toList.map fun x=>(x.1,a.eval x.2):=by simp
 have fin:∀ place:Nat→Option (Nat×Nat),(∀ i x,pl[i]? = some x→place i=some x) →
     ∃ cells',Instr.fill place zv.cells (parts.map fun (i,x)=>(i,a.eval x)).toList=some cells'∧Good (CRof P gt) g s w s' (.agg m) (.agg cells') w:=by
  intro place hpp
  obtain ⟨cells',e1,g1,hI1,hL1,hV1,hE1⟩:=NZ (place:=place) hpp hI hG hT hps (B8 (hz2 g s w)) h
  rw [hpl]
  exact ⟨cells',e1,g1,hI1,hL1,by simp only [V]; exact ⟨cells'.toList,hV1,rfl⟩,hE1⟩
 unfold Ht at hp
 split at hp
 · rename_i fs hu
   obtain ⟨cells',e1,e2⟩:=fin (fun i=>pl.toArray[i]?) (fun i x hx=>by simpa using hx)
   refine ⟨_,?_,e2⟩
   have hm:(fs.mapM (fun f=>do pure (f.offset,← sizeOf f.type)):Sem (Array (Nat×Nat))).run P w=.ok pl.toArray w:=by
    rw [Array.mapM_eq_mapM_toList]
    simp only [Sem.run_map,JG hp,Result.andThen_ok]
   simp only [Instr.build,Sem.run_bind,hz1,Result.andThen_ok,AA hu,hm,e1,Sem.run_pure]
 · rename_i n el hu
   split at hp<;>try (cases hp; done)
   rename_i k hk
   cases hp
   obtain ⟨cells',e1,e2⟩:=fin (fun i=>some (i*k,k)) (fun i x hx=>by
    simp only [List.getElem?_map,Option.map_eq_some_iff] at hx
    obtain ⟨j,hj,rfl⟩:=hx
    rw [List.getElem?_range (by rcases List.getElem?_eq_some_iff.1 hj with ⟨h,_⟩; simpa using h)] at hj
    cases hj; rfl)
   refine ⟨_,?_,e2⟩
   simp only [Instr.build,Sem.run_bind,hz1,Result.andThen_ok,AA hu,Ae hk,e1,Sem.run_pure]
 · cases hp
theorem IV {op:BinOp} {t:Nat} {x y:Operand} {xv yv:Value} (h:op=.eql∨op=.neq→((xv=.nilIface∧yv=.nilIface)→Fo x=true∨Fo y=true)∧∀ l,xv≠.agg l):(eqGuard op t x y xv yv).run P w=.ok () w:=by
 by_cases hop:op=.eql∨op=.neq
 · obtain ⟨h1,h2⟩:=h hop
   clear h
   have key:∀ op':BinOp,(op'=.eql∨op'=.neq)→(eqGuard op' t x y xv yv).run P w=.ok () w:=by
    intro op' hop'
    cases xv with
    | agg l=>exact absurd rfl (h2 l)
    | nilIface =>
      cases yv with
      | nilIface =>
        have hc:=h1 ⟨rfl,rfl⟩
        clear h1 h2
        rcases hop' with rfl | rfl
        · cases x<;>cases y<;>first | rfl | (simp [Fo] at hc)
        · cases x<;>cases y<;>first | rfl | (simp [Fo] at hc)
      | _=>clear h1 h2; rcases hop' with rfl | rfl<;>rfl
    | _=>clear h1 h2; rcases hop' with rfl | rfl<;>rfl
   exact key op hop
 · clear h
   cases op<;>first | rfl | (simp at hop)
theorem Kq {op:BinOp} {x y:AV} (h:binOp op x y=some r):(∃ k n,x=.i k n)∨∃ l,x=.s l:=by
 unfold binOp at h
 split at h
 · exact .inl ⟨_,_,rfl⟩
 · exact .inl ⟨_,_,rfl⟩
 · exact .inl ⟨_,_,rfl⟩
 · exact .inl ⟨_,_,rfl⟩
 · exact .inr ⟨_,rfl⟩
 · cases h
def MM:Value→Bool
 | .int _ _=>false
 | .float _ _=>false
 | .complex _ _ _=>false
 | .string _=>false
 | .agg _=>false
 | .tuple _=>false
 | _=>true
theorem MN {t:Nat} {xv yv:Value} (h:MM xv=true):Go.binOp .eql t xv yv=(do pure (.bool (← Op.equal t xv yv)))∧Go.binOp .neq t xv yv=(do pure (.bool (!(← Op.equal t xv yv)))):=by
 cases xv<;>first | (simp [MM] at h; done) | (cases yv<;>exact ⟨rfl,rfl⟩)
theorem Nv {k:EK} {x y:AV} {xv:Value} {b:Bool} (hkk:∀ ks,k≠.st ks) (hx:V g s w x xv) (h:eqv k x y=some b):MM xv=true∧(xv=.nilIface→k=.ifc):=by
 have fin:∀ {x:AV} {xv:Value},V g s w x xv→(∀ kk n,x≠.i kk n)→(∀ l,x≠.s l)→(∀ l,x≠.agg l)→(∀ l,x≠.tup l)→x≠.any→(∀ n,x≠.ige n)→MM xv=true:=by
  intro x xv hx h1 h2 h3 h4 h5 h6
  cases x<;>simp only [V] at hx
  case i=>exact absurd rfl (h1 _ _)
  case s=>exact absurd rfl (h2 _)
  case agg=>exact absurd rfl (h3 _)
  case tup=>exact absurd rfl (h4 _)
  case any=>exact absurd rfl h5
  case ige=>exact absurd rfl (h6 _)
  case b=>subst hx; rfl
  case np=>subst hx; rfl
  case p=>obtain ⟨_,rfl⟩:=hx; rfl
  case ep=>obtain ⟨_,_,_,rfl,_⟩:=hx; rfl
  case nsl=>subst hx; rfl
  case sl=>obtain ⟨_,_,_,_,rfl,_⟩:=hx; rfl
  case ws =>
   rcases hx with ⟨rfl,_⟩ | ⟨⟨_,rfl⟩,_⟩ | ⟨_,_,_,_,rfl,_⟩<;>rfl
  case wz=>obtain ⟨_,rfl⟩:=hx; rfl
  case bl=>obtain ⟨_,_,rfl,_⟩:=hx; rfl
  case sd=>obtain ⟨_,_,_,_,rfl,_⟩:=hx; rfl
  case nm=>subst hx; rfl
  case m=>obtain ⟨_,rfl⟩:=hx; rfl
  case nf=>subst hx; rfl
  case fn=>obtain ⟨_,_,rfl⟩:=hx; rfl
  case yld=>obtain ⟨_,rfl⟩:=hx; rfl
  case ni=>subst hx; rfl
  case ifc=>obtain ⟨_,_,rfl⟩:=hx; rfl
  case mth=>obtain ⟨_,_,rfl⟩:=hx; rfl
 have nil:xv=.nilIface→x=.ni:=by
  rintro rfl
  cases x<;>simp only [V] at hx
  case b=>cases hx
  case i=>cases hx
  case s=>cases hx.1
  case np=>cases hx
  case p=>cases hx.2
  case ep=>obtain ⟨_,_,_,h,_⟩:=hx; cases h
  case nsl=>cases hx
  case sl=>obtain ⟨_,_,_,_,h,_⟩:=hx; cases h
  case ws =>
   rcases hx with ⟨h,_⟩ | ⟨⟨_,h⟩,_⟩ | ⟨_,_,_,_,h,_⟩<;>cases h
  case wz=>obtain ⟨_,h⟩:=hx; cases h
  case bl=>obtain ⟨_,_,h,_⟩:=hx; cases h
  case sd=>obtain ⟨_,_,_,_,h,_⟩:=hx; cases h
  case nm=>cases hx
  case m=>cases hx.2
  case nf=>cases hx
  case fn=>obtain ⟨_,_,h⟩:=hx; cases h
  case yld=>cases hx.2
  case ni=>rfl
  case ifc=>obtain ⟨_,_,h⟩:=hx; cases h
  case mth=>obtain ⟨_,_,h⟩:=hx; cases h
  case agg=>obtain ⟨_,_,h⟩:=hx; cases h
  case tup=>obtain ⟨_,_,h⟩:=hx; cases h
  case any=>obtain ⟨_,_,h⟩:=hx; cases h
  case ige=>obtain ⟨_,h,_⟩:=hx; cases h
 cases k
 case st ks=>exact absurd rfl (hkk ks)
 all_goals simp only [eqv,eqB,eqP,eqS,eqM,eqF,eqI] at h
 all_goals split at h
 all_goals first
  | (cases h; done)
  | (exact ⟨fin hx (fun _ _ hh=>by cases hh) (fun _ hh=>by cases hh) (fun _ hh=>by cases hh) (fun _ hh=>by cases hh) (fun hh=>by cases hh) (fun _ hh=>by cases hh),fun hh=>by first | rfl | (cases nil hh)⟩)
theorem Nw {t:Nat} {d:TypeDesc} {x y:Operand} {k:EK} (hu:P.underlying t=some d) (h:Lt P d x y=some k):MD P t k∧(k=.ifc→Fo x=true∨Fo y=true):=by
 unfold Lt at h
 split at h
 · cases h; exact ⟨hu,fun hh=>by cases hh⟩
 · split at h<;>cases h
   rename_i n hn
   exact ⟨⟨_,n,hu,hn⟩,fun hh=>by cases hh⟩
 · cases h; exact ⟨⟨_,hu⟩,fun hh=>by cases hh⟩
 · cases h; exact ⟨⟨_,_,hu⟩,fun hh=>by cases hh⟩
 · cases h; exact ⟨⟨_,_,_,hu⟩,fun hh=>by cases hh⟩
 · split at h<;>cases h
   rename_i hc
   exact ⟨⟨_,hu⟩,fun _=>by simpa using hc⟩
 · cases h
theorem JH (n:String):Qh (nmOf n)=n:=by
 unfold Qh nmOf
 rw [List.map_map]
 have:(Char.ofNat∘Char.toNat)=id:=by funext c; simp
 rw [this]; simp
theorem Nx {self:Self} (hI:Inv (CRof P gt) g s w) (hG:GT gt g w) (hT:VT g s w e a.tmps) {pop:Bool} {aop:AOp} (hc:Ep P gt pop o=some aop) (hcall:∀ c,o.op≠.call c) (h:evOp self e s aop=some (r,s')) :
    Does rd P o a w (Good (CRof P gt) g s w s' r):=by
 unfold Ep at hc
 split at hc
 case h_1 x ho => -- move
  split at hc<;>try (cases hc; done)
  rename_i y hy
  cases hc
  simp only [evOp] at h; cases h
  exact AG (by simp [ho]) (by simp [execOp,ho]) (AH hI (AM hG hT hy))
 case h_2 x ho => -- assign
  split at hc<;>try (cases hc; done)
  rename_i y hy
  cases hc
  simp only [evOp] at h; cases h
  exact AG (by simp [ho]) (by simp [execOp,ho]) (AH hI (AM hG hT hy))
 case h_3 c x y ho => -- pick
  split at hc<;>try (cases hc; done)
  rename_i c' x' y' h1 h2 h3
  cases hc
  simp only [evOp] at h
  have hv:=AM hG hT h1
  split at h<;>try (cases h; done)
  · rename_i hb
    rw [hb] at hv; simp only [V] at hv
    cases h
    exact AG (by simp [ho]) (by simp [execOp,ho,hv,asBool]) (AH hI (AM hG hT h2))
  · rename_i hb
    rw [hb] at hv; simp only [V] at hv
    cases h
    exact AG (by simp [ho]) (by simp [execOp,ho,hv,asBool]) (AH hI (AM hG hT h3))
 case h_4 t ho => -- alloc
  split at hc<;>try (cases hc; done)
  rename_i z hz
  cases hc
  simp only [evOp] at h; cases h
  obtain ⟨v,w',e1,e2⟩:=O4 hI hz
  exact AG (by simp [ho]) (by simp only [execOp,ho]; exact Aj e1) e2
 case h_5 t x ho => -- box
  split at hc<;>try (cases hc; done)
  rename_i n y hn hy
  cases hc
  simp only [evOp] at h
  split at h<;>try (cases h; done)
  cases h
  obtain ⟨v,w',e1,e2⟩:=box_ok (P:=P) hI t (AM hG hT hy)
  exact AG (by simp [ho]) (by simp only [execOp,ho]; exact Aj e1) e2
 case h_6 t parts ho => -- build
  split at hc<;>try (cases hc; done)
  rename_i z pl hz hpl
  split at hc<;>try (cases hc; done)
  rename_i ps hps
  cases hc
  simp only [evOp] at h
  split at h<;>try (cases h; done)
  rename_i m s1 hm
  cases h
  obtain ⟨v,e1,e2⟩:=PD hI hG hT hz hpl hps hm
  exact AG (by simp [ho]) (by simp only [execOp,ho]; exact Aj e1) e2
 case h_7 t len parts ho => -- buildSlice
  split at hc<;>try (cases hc; done)
  rename_i el hu
  split at hc<;>try (cases hc; done)
  rename_i es z xs hn hz hx
  split at hc<;>try (cases hc; done)
  rename_i hl
  cases hc
  simp only [evOp] at h
  split at h<;>try (cases h; done)
  rename_i vs s1 hp
  split at h<;>try (cases h; done)
  rename_i hc2
  cases h
  obtain ⟨v,w',e1,e2⟩:=bsl_ok hI hG hT hu hn hz hx hl.1 hl.2 hp hc2.1 hc2.2
  exact AG (by simp [ho]) (by simp only [execOp,ho]; exact Aj e1) e2
 case h_8 t x ho => -- load
  split at hc<;>try (cases hc; done)
  rename_i ag n y hag hn hy
  have hv:=AM hG hT hy
  split at hc
  · cases hc
    simp only [evOp] at h
    split at h
    · rename_i v' hl
      obtain ⟨v,e1,e2⟩:=NV (P:=P) hI hag hn hv hl
      cases h
      exact AG (by simp [ho]) (by simp only [execOp,ho]; exact Aj e1) (AH hI e2)
    · cases h
  cases hc
  simp only [evOp] at h
  split at h
  · rename_i l hl
    obtain ⟨v,e1,e2⟩:=NV (P:=P) hI hag hn hv hl
    split at h<;>try (cases h; done)
    rename_i l' s1 hp
    cases h
    simp only [V] at e2
    obtain ⟨vs,k1,rfl⟩:=e2
    obtain ⟨g1,hI1,hL1,hV1,hE1⟩:=EQ hI k1 hp
    exact AG (by simp [ho]) (by simp only [execOp,ho]; exact Aj e1) ⟨g1,hI1,hL1,by simp only [V]; exact ⟨vs,hV1,rfl⟩,hE1⟩
  · rename_i v' hne hl
    obtain ⟨v,e1,e2⟩:=NV (P:=P) hI hag hn hv hl
    cases h
    exact AG (by simp [ho]) (by simp only [execOp,ho]; exact Aj e1) (AH hI e2)
  · cases h
 case h_9 t x y ho => -- store
  split at hc<;>try (cases hc; done)
  rename_i n x' y' hn hx hy
  cases hc
  simp only [evOp] at h
  split at h<;>try (cases h; done)
  rename_i s1 hs
  cases h
  obtain ⟨w',e1,e2⟩:=st_ok (P:=P) hI hn (AM hG hT hx) (AM hG hT hy) hs
  exact Gq (by simp [ho]) (by simp [execOp,ho,e1]) e2
 case h_10 x ho => -- nilCheck
  split at hc<;>try (cases hc; done)
  rename_i y hy
  cases hc
  have hv:=AM hG hT hy
  simp only [evOp] at h
  split at h<;>try (cases h; done)
  all_goals
   rename_i heq
   cases h
   have hv':=hv
   rw [heq] at hv
   refine AG (v:=a.eval x) (w':=w) (by simp [ho]) ?_ (AH hI hv)
   simp only [V] at hv
   simp only [execOp,ho]
  · obtain ⟨_,hv⟩:=hv; rw [hv]; rfl
  · obtain ⟨_,_,_,hv,_⟩:=hv; rw [hv]; rfl
  · obtain ⟨_,_,hv⟩:=hv; rw [hv]; rfl
  · obtain ⟨_,_,hv⟩:=hv; rw [hv]; rfl
 case h_11 op t x y yt ho => -- binOp
  have guard:∀ {x':X},cvX gt x=some x'→((∃ k n,x'.ev e=.i k n)∨∃ l,x'.ev e=.s l)→(eqGuard op t x y (a.eval x) (a.eval y)).run P w=.ok () w:=by
   intro x' hx hs
   have hv:=AM hG hT hx
   refine IV (fun _=>?_)
   rcases hs with ⟨k,n,hs⟩ | ⟨l,hs⟩
   · rw [hs] at hv; simp only [V] at hv; rw [hv]
     exact ⟨(fun hh=>by cases hh.1),(fun _ hh=>by cases hh)⟩
   · rw [hs] at hv; simp only [V] at hv; rw [hv.1]
     exact ⟨(fun hh=>by cases hh.1),(fun _ hh=>by cases hh)⟩
  have run:∀ {v:Value},(eqGuard op t x y (a.eval x) (a.eval y)).run P w=.ok () w→(Go.binOp op t (a.eval x) (a.eval y)).run P w=.ok v w→(execOp a.eval o).run P w=.ok (.value v) w:=by
   intro v h1 h2
   simp [execOp,ho,h1,h2]
  split at hc
  · rename_i x' y' k hx hy hu
    cases hc
    simp only [evOp] at h
    obtain ⟨h1,rfl⟩:=DZ h
    obtain ⟨v,e1,e2⟩:=Px (P:=P) (AM hG hT hx) (AM hG hT hy) h1 t
    exact AG (by simp [ho]) (run (guard hx (Kq h1)) e1) (AH hI e2)
  · rename_i x' y' hx hy hu
    cases hc
    simp only [evOp] at h
    obtain ⟨h1,rfl⟩:=DZ h
    obtain ⟨v,e1,e2⟩:=Px (P:=P) (AM hG hT hx) (AM hG hT hy) h1 t
    exact AG (by simp [ho]) (run (guard hx (Kq h1)) e1) (AH hI e2)
  · rename_i x' y' fs hx hy hu
    split at hc<;>try (cases hc; done)
    · rename_i ks hk
      cases hc
      simp only [evOp] at h
      split at h<;>try (cases h; done)
      rename_i b hb
      cases h
      obtain ⟨e0,xs,ys,e1,e2,e3⟩:=Nf (P:=P) hu hk (AM hG hT hx) (AM hG hT hy) hb
      have e4:=run_eqGuard_agg w .eql t x y xs ys e0
      have e5:=run_eql_struct (P:=P) w t xs ys
      rw [← e1,← e2] at e3 e4 e5
      rw [e3] at e5
      exact AG (by simp [ho]) (run e4 e5) (AH hI (by simp [V]))
    · rename_i ks hk
      cases hc
      simp only [evOp] at h
      split at h<;>try (cases h; done)
      rename_i b hb
      cases h
      obtain ⟨e0,xs,ys,e1,e2,e3⟩:=Nf (P:=P) hu hk (AM hG hT hx) (AM hG hT hy) hb
      have e4:=run_eqGuard_agg w .neq t x y xs ys e0
      have e5:=run_neq_struct (P:=P) w t xs ys
      rw [← e1,← e2] at e3 e4 e5
      rw [e3] at e5
      exact AG (by simp [ho]) (run e4 e5) (AH hI (by simp [V]))
  · rename_i x' y' d _ _ _ hx hy hu
    have eqcase:∀ {k:EK} {b:Bool},Lt P d x y=some k→eqv k (x'.ev e) (y'.ev e)=some b→(eqGuard op t x y (a.eval x) (a.eval y)).run P w=.ok () w ∧
        (Go.binOp .eql t (a.eval x) (a.eval y)).run P w=.ok (.bool b) w∧(Go.binOp .neq t (a.eval x) (a.eval y)).run P w=.ok (.bool (!b)) w:=by
     intro k b hk hb
     have hv:=AM hG hT hx
     obtain ⟨h1,h2⟩:=Nw hu hk
     obtain ⟨h3,h4⟩:=Nv (fun ks hh=>by rw [hh] at h1; exact h1) hv hb
     have h5:=eqv_ok (P:=P) hv (AM hG hT hy) h1 hb
     refine ⟨IV (fun _=>⟨(fun hh=>h2 (h4 hh.1)),(fun l hh=>by rw [hh] at h3; cases h3)⟩),?_,?_⟩
     · rw [(MN h3).1]; simp [h5]
     · rw [(MN h3).2]; simp [h5]
    split at hc<;>try (cases hc; done)
    · rename_i k hk
      cases hc
      simp only [evOp] at h
      split at h<;>try (cases h; done)
      rename_i b hb
      cases h
      obtain ⟨e1,e2,_⟩:=eqcase hk hb
      exact AG (by simp [ho]) (run e1 e2) (AH hI (by simp [V]))
    · rename_i k hk
      cases hc
      simp only [evOp] at h
      split at h<;>try (cases h; done)
      rename_i b hb
      cases h
      obtain ⟨e1,_,e2⟩:=eqcase hk hb
      exact AG (by simp [ho]) (run e1 e2) (AH hI (by simp [V]))
  · cases hc
 case h_12 op t x ho => -- unOp
  split at hc<;>try (cases hc; done)
  rename_i x' hx
  cases hc
  simp only [evOp] at h
  obtain ⟨h1,rfl⟩:=DZ h
  obtain ⟨v,e1,e2⟩:=un_ok (P:=P) (AM hG hT hx) h1
  exact AG (by simp [ho]) (by simp only [execOp,ho]; exact Aj e1) (AH hI e2)
 case h_13 t u x ho => -- convert
  split at hc<;>try (cases hc; done)
  · rename_i k1 k x' h1 h2 hx
    cases hc
    have hv:=AM hG hT hx
    simp only [evOp] at h
    split at h<;>try (cases h; done)
    rename_i k2 n heq
    cases h
    rw [heq] at hv; simp only [V] at hv
    exact AG (by simp [ho]) (by simp only [execOp,ho]; exact Aj (v:=.int k (k.wrap n)) (by simp [Go.convert,AA h1,AA h2,hv,Conv.intToInt])) (AH hI (by simp [V]))
  · rename_i x' h1 h2 hx
    cases hc
    have hv:=AM hG hT hx
    simp only [evOp] at h
    split at h<;>try (cases h; done)
    rename_i l heq
    cases h
    have hv':=hv
    rw [heq] at hv; simp only [V] at hv
    exact AG (v:=a.eval x) (by simp [ho]) (by simp only [execOp,ho]; exact Aj (by simp [Go.convert,AA h1,AA h2,hv.1])) (AH hI (by rw [heq] at hv'; exact hv'))
  · rename_i k x' h1 h2 hx
    cases hc
    have hv:=AM hG hT hx
    simp only [evOp] at h
    split at h<;>try (cases h; done)
    rename_i k2 n heq
    cases h
    rw [heq] at hv; simp only [V] at hv
    refine AG (v:=.string (Utf8.encode n)) (by simp [ho]) (by simp only [execOp,ho]; exact Aj (by simp [Go.convert,AA h1,AA h2,hv,Conv.intToString])) (AH hI ?_)
    simp only [V]
    exact ⟨by rw [Kp],fun c hc=>Qm hc⟩
  · rename_i el x' h1 h2 hx
    split at hc<;>try (cases hc; done)
    rename_i he
    cases hc
    have hv:=AM hG hT hx
    simp only [evOp] at h
    split at h<;>try (cases h; done)
    · rename_i heq
      cases h
      rw [heq] at hv
      obtain ⟨v,e1,e2⟩:=HJ (P:=P) h1 he h2 hv (r:=[]) rfl
      exact AG (by simp [ho]) (by simp only [execOp,ho]; exact Aj e1) (AH hI e2)
    · rename_i heq
      cases h
      rw [heq] at hv
      obtain ⟨v,e1,e2⟩:=HJ (P:=P) h1 he h2 hv (r:=[]) rfl
      exact AG (by simp [ho]) (by simp only [execOp,ho]; exact Aj e1) (AH hI e2)
    · rename_i es xs m heq
      split at h<;>try (cases h; done)
      rename_i hok
      split at h<;>try (cases h; done)
      rename_i l hl
      cases h
      rw [heq] at hv
      obtain ⟨v,e1,e2⟩:=HJ (P:=P) h1 he h2 hv (r:=l) (by simp only; rw [if_pos hok]; exact hl)
      exact AG (by simp [ho]) (by simp only [execOp,ho]; exact Aj e1) (AH hI e2)
    · rename_i f es xs heq
      split at h<;>try (cases h; done)
      rename_i l hl
      cases h
      rw [heq] at hv
      rcases V_ws.1 hv with ⟨hv2,rfl⟩ | ⟨hv2,rfl⟩ | hv2
      · cases hl
        obtain ⟨v,e1,e2⟩:=HJ (P:=P) h1 he h2 hv2 (r:=[]) rfl
        exact AG (by simp [ho]) (by simp only [execOp,ho]; exact Aj e1) (AH hI e2)
      · cases hl
        obtain ⟨v,e1,e2⟩:=HJ (P:=P) h1 he h2 hv2 (r:=[]) rfl
        exact AG (by simp [ho]) (by simp only [execOp,ho]; exact Aj e1) (AH hI e2)
      · obtain ⟨v,e1,e2⟩:=HJ (P:=P) h1 he h2 hv2 (r:=l) (by simp only; rw [if_pos E4.1]; exact hl)
        exact AG (by simp [ho]) (by simp only [execOp,ho]; exact Aj e1) (AH hI e2)
    · rename_i id es off n x0 heq
      split at h<;>try (cases h; done)
      rename_i hes
      subst hes
      split at h<;>try (cases h; done)
      rename_i ys hr
      split at h<;>try (cases h; done)
      rename_i l hl
      cases h
      rw [heq] at hv
      obtain ⟨v,e1,e2⟩:=Qf (P:=P) hI h1 he h2 hv hr hl
      exact AG (by simp [ho]) (by simp only [execOp,ho]; exact Aj e1) (AH hI e2)
  · rename_i el x' h1 h2 hx
    split at hc<;>try (cases hc; done)
    rename_i he
    cases hc
    have hv:=AM hG hT hx
    simp only [evOp] at h
    split at h<;>try (cases h; done)
    rename_i l heq
    split at h<;>try (cases h; done)
    cases h
    rw [heq] at hv
    obtain ⟨v,w',e1,e2⟩:=Qg (P:=P) hI h2 he h1 hv
    exact AG (by simp [ho]) (by simp only [execOp,ho]; exact Aj e1) e2
  all_goals
   rename_i tt x' h1 h2 hx
   unfold JT at hc
   split at hc<;>try (cases hc; done)
   rename_i n hn
   split at hc<;>try (cases hc; done)
   rename_i hl
   cases hc
   have hv:=AM hG hT hx
   simp only [evOp] at h
   split at h<;>try (cases h; done)
   rename_i id heq
   split at h<;>try (cases h; done)
   rename_i T' l hb
   split at h<;>try (cases h; done)
   rename_i hcond
   obtain ⟨rfl,hlen,_⟩:=hcond
   cases h
   rw [heq] at hv
   exact AG (by simp [ho]) (by simp only [execOp,ho]; exact Aj (cvU_ok (P:=P) hI (by first | exact .inl ⟨h1,h2⟩ | exact .inr ⟨h1,h2⟩) hn hl.1 hl.2 hb hlen hv)) (AH hI hv)
 case h_14 t x ho => -- makeInterface
  split at hc<;>try (cases hc; done)
  rename_i d x' hne hu hx
  cases hc
  simp only [evOp] at h
  split at h<;>try (cases h; done)
  rename_i v' s1 hp
  cases h
  obtain ⟨g1,hI1,hL1,hV1,hE1⟩:=FL hI (AM hG hT hx) hp
  exact AG (v:=.iface t (a.eval x)) (by simp [ho]) (by
   simp only [execOp,ho]
   refine Aj ?_
   simp only [Instr.makeInterface,Sem.run_bind,AA hu,Result.andThen_ok]
   cases d<;>first | rfl | exact absurd rfl (hne _)) ⟨g1,hI1,hL1,by simp only [V]; exact ⟨_,hV1,rfl⟩,hE1⟩
 case h_15 f first caps ho => -- makeFunc
  split at hc<;>try (cases hc; done)
  rename_i l hf hx
  cases hc
  simp only [evOp] at h
  split at h<;>try (cases h; done)
  rename_i vs s1 hp
  cases h
  obtain ⟨g1,hI1,hL1,hV1,hE1⟩:=EQ hI (Ja hG hT hx) hp
  have hfirst:first=#[]:=by
   apply Array.toList_inj.1; simpa using hf
  exact AG (v:=.func (.func f) #[] (caps.map a.eval)) (by simp [ho]) (by simp [execOp,ho,Instr.makeFunc,hfirst]) ⟨g1,hI1,hL1,by simp only [V]; exact ⟨_,hV1,by simp; apply Array.toList_inj.1; simp⟩,hE1⟩
 case h_16 t x lo hi mx ho => -- slice
  split at hc<;>try (cases hc; done)
  · rename_i x' lo' hi' hu hx hlo hhi hmx
    cases hc
    have hv:=AM hG hT hx
    simp only [evOp] at h
    split at h<;>try (cases h; done)
    rename_i l heq
    split at h<;>try (cases h; done)
    rename_i p q hb
    cases h
    rw [heq] at hv
    have hm:mx=none:=by
     cases mx with
     | none=>rfl
     | some m =>
       simp only [cvO] at hmx
       split at hmx<;>cases hmx
    subst hm
    obtain ⟨v,e1,e2⟩:=slS_ok (P:=P) hu hv (IU hG hT hlo) (IU hG hT hhi) hb
    exact AG (by simp [ho]) (by simp only [execOp,ho]; exact Aj e1) (AH hI e2)
  · rename_i el x' lo' hi' mx' hu hx hlo hhi hmx
    split at hc<;>try (cases hc; done)
    rename_i n hn
    split at hc<;>try (cases hc; done)
    rename_i hb3
    cases hc
    simp only [evOp] at h
    obtain ⟨v,e1,e2⟩:=slc_ok (P:=P) hI hu hn (AM hG hT hx) (IU hG hT hlo) (IU hG hT hhi) (IU hG hT hmx) h (fun hs=>by cases mx'<;>cases hi'<;>simp_all [optX])
    exact AG (by simp [ho]) (by simp only [execOp,ho]; exact Aj e1) e2
  · rename_i len el x' lo' hi' hu hx hlo hhi hmx
    split at hc<;>try (cases hc; done)
    rename_i n hn
    cases hc
    have hv:=AM hG hT hx
    simp only [evOp] at h
    split at h<;>try (cases h; done)
    rename_i id off p q heq hb
    cases h
    rw [heq] at hv
    have hm:mx=none:=by
     cases mx with
     | none=>rfl
     | some m =>
       simp only [cvO] at hmx
       split at hmx<;>cases hmx
    subst hm
    obtain ⟨v,e1,e2⟩:=Qe (P:=P) hI hu hn (by omega) hv (IU hG hT hlo) (IU hG hT hhi) hb
    exact AG (by simp [ho]) (by simp only [execOp,ho]; exact Aj e1) (AH hI e2)
 case h_17 t x f ho => -- fieldAddr
  split at hc<;>try (cases hc; done)
  rename_i fs x' hu hx
  split at hc<;>try (cases hc; done)
  rename_i fl hf
  split at hc<;>try (cases hc; done)
  rename_i n hn
  cases hc
  simp only [evOp] at h
  have hr:JD fl.offset (x'.ev e)=some r∧s'=s:=by cases hxe:x'.ev e<;>simp only [hxe] at h<;>cases h<;>exact ⟨rfl,rfl⟩
  obtain ⟨hr,rfl⟩:=hr
  obtain ⟨v,e1,e2⟩:=fa_ok (P:=P) (f:=f) hu hf hn (AM hG hT hx) hr
  exact AG (by simp [ho]) (by simp only [execOp,ho]; exact Aj e1) (AH hI e2)
 case h_18 t x f ho => -- field
  split at hc<;>try (cases hc; done)
  rename_i fs x' hu hx
  split at hc<;>try (cases hc; done)
  rename_i fl hf
  split at hc<;>try (cases hc; done)
  rename_i ag n hag hn
  cases hc
  have hv:=AM hG hT hx
  simp only [evOp] at h
  split at h<;>try (cases h; done)
  rename_i l heq
  split at h<;>try (cases h; done)
  rename_i m hcut
  obtain ⟨h1,rfl⟩:=DZ h
  rw [heq] at hv
  obtain ⟨v,e1,e2⟩:=fld_ok (P:=P) (f:=f) hu hf hag hn hv hcut h1
  exact AG (by simp [ho]) (by simp only [execOp,ho]; exact Aj e1) (AH hI e2)
 case h_19 t x i ho => -- indexAddr
  split at hc<;>try (cases hc; done)
  · rename_i el x' i' hu hx hi
    split at hc<;>try (cases hc; done)
    rename_i n hn
    cases hc
    have hv:=AM hG hT hx
    simp only [evOp] at h
    split at h<;>try (cases h; done)
    rename_i e0 xs m j heq hj
    split at h<;>try (cases h; done)
    rename_i hes
    subst hes
    split at h<;>try (cases h; done)
    rename_i u hu2
    cases h
    rw [heq] at hv
    obtain ⟨v,e1,e2⟩:=ia_ok (P:=P) hu hn hv (AM hG hT hi) hj hu2
    exact AG (by simp [ho]) (by simp only [execOp,ho]; exact Aj e1) (AH hI e2)
    rename_i f e0 xs j heq hj
    split at h<;>try (cases h; done)
    rename_i hes
    subst hes
    split at h<;>try (cases h; done)
    rename_i u hu2
    cases h
    rw [heq] at hv
    rcases V_ws.1 hv with ⟨_,rfl⟩ | ⟨_,rfl⟩ | hv2
    · simp at hu2
    · simp at hu2
    · obtain ⟨v,e1,e2⟩:=ia_ok (P:=P) hu hn hv2 (AM hG hT hi) hj hu2
      refine AG (by simp [ho]) (by simp only [execOp,ho]; exact Aj e1) (AH hI ?_)
      simp only [V] at e2 ⊢
      obtain ⟨b,o,cs,q1,_,q3⟩:=e2
      refine ⟨b,o,cs,q1,trivial,fun _=>?_⟩
      obtain ⟨p1,p2,p3⟩:=q3 E4.1
      exact ⟨p1,p2,by cases f<;>exact p3⟩
    rename_i id e0 off m0 y0 j heq hj
    split at h<;>try (cases h; done)
    rename_i hes
    obtain ⟨rfl,hlt⟩:=hes
    cases h
    rw [heq] at hv
    obtain ⟨v,e1,e2⟩:=iaB_ok (P:=P) hu hn hv (AM hG hT hi) hj hlt
    exact AG (by simp [ho]) (by simp only [execOp,ho]; exact Aj e1) (AH hI e2)
  · rename_i len el x' i' hu hx hi
    split at hc<;>try (cases hc; done)
    rename_i k hk
    cases hc
    simp only [evOp] at h
    split at h<;>try (cases h; done)
    rename_i n hn
    split at h<;>try (cases h; done)
    rename_i hlt
    have hr:JD (n*k) (x'.ev e)=some r∧s'=s:=by cases hxe:x'.ev e<;>simp only [hxe] at h<;>cases h<;>exact ⟨rfl,rfl⟩
    obtain ⟨hr,rfl⟩:=hr
    obtain ⟨v,e1,e2⟩:=iaA_ok (P:=P) hu hk (AM hG hT hx) (AM hG hT hi) hn hlt hr
    exact AG (by simp [ho]) (by simp only [execOp,ho]; exact Aj e1) (AH hI e2)
 case h_20 t x i ho => -- index
  split at hc<;>try (cases hc; done)
  · rename_i x' i' hu hx hi
    cases hc
    have hv:=AM hG hT hx
    simp only [evOp] at h
    split at h<;>try (cases h; done)
    rename_i l n heq hn
    split at h<;>try (cases h; done)
    rename_i c hcc
    cases h
    rw [heq] at hv
    obtain ⟨v,e1,e2⟩:=ixS_ok (P:=P) hu hv (AM hG hT hi) hn hcc
    exact AG (by simp [ho]) (by simp only [execOp,ho]; exact Aj e1) (AH hI e2)
  · rename_i len el x' i' hu hx hi
    split at hc<;>try (cases hc; done)
    rename_i ag k hag hk
    cases hc
    have hv:=AM hG hT hx
    simp only [evOp] at h
    split at h<;>try (cases h; done)
    rename_i l n heq hn
    split at h<;>try (cases h; done)
    rename_i hlt
    split at h<;>try (cases h; done)
    rename_i m hcut
    obtain ⟨h1,rfl⟩:=DZ h
    rw [heq] at hv
    obtain ⟨v,e1,e2⟩:=ixA_ok (P:=P) hu hag hk hv (AM hG hT hi) hn hlt hcut h1
    exact AG (by simp [ho]) (by simp only [execOp,ho]; exact Aj e1) (AH hI e2)
 case h_21 x n ho => -- extract
  split at hc<;>try (cases hc; done)
  rename_i x' hx
  cases hc
  have hv:=AM hG hT hx
  simp only [evOp] at h
  split at h<;>try (cases h; done)
  rename_i l heq
  obtain ⟨h1,rfl⟩:=DZ h
  rw [heq] at hv; simp only [V] at hv
  obtain ⟨vs,k1,k2⟩:=hv
  obtain ⟨v,e1,e2⟩:=L4 k1 h1
  exact AG (v:=v) (by simp [ho]) (by simp [execOp,ho,Instr.extract,k2,e1]) (AH hI e2)
 case h_22 t x ho => -- range
  split at hc<;>try (cases hc; done)
  rename_i x' hu hx
  cases hc
  have hv:=AM hG hT hx
  simp only [evOp] at h
  split at h<;>try (cases h; done)
  rename_i l heq
  cases h
  rw [heq] at hv
  obtain ⟨v,w',e1,e2⟩:=O7 (P:=P) hI hu hv
  exact AG (by simp [ho]) (by simp only [execOp,ho]; exact Aj e1) e2
 case h_23 x ho => -- next
  split at hc<;>try (cases hc; done)
  rename_i x' hx
  cases hc
  have hv:=AM hG hT hx
  simp only [evOp] at h
  split at h<;>try (cases h; done)
  rename_i id heq
  split at h<;>try (cases h; done)
  rename_i l pos hb
  rw [heq] at hv
  obtain ⟨v,w',e1,e2⟩:=O8 (P:=P) (ty:=o.type) hI hv hb h
  exact AG (by simp [ho]) (by simp only [execOp,ho]; exact Aj e1) e2
 case h_24 c ho=>exact absurd ho (hcall c)
 case h_25 t ho => -- makeMap
  cases hc
  simp only [evOp] at h; cases h
  obtain ⟨v,w',e1,e2⟩:=mkm_ok (P:=P) hI t
  exact AG (by simp [ho]) (by simp only [execOp,ho]; exact Aj e1) e2
 case h_26 t m k v ho => -- insert
  split at hc<;>try (cases hc; done)
  rename_i kk et m' k' v' ht hm hk hv
  cases hc
  simp only [evOp] at h
  split at h<;>try (cases h; done)
  rename_i id v1 s1 heq hp
  split at h<;>try (cases h; done)
  rename_i es hb
  split at h<;>try (cases h; done)
  rename_i es' hu
  cases h
  have hm1:=AM hG hT hm
  rw [heq] at hm1
  obtain ⟨g1,hI1,hL1,hV1,hE1⟩:=FL hI (AM hG hT hv) hp
  obtain ⟨w',e1,e2⟩:=Pz (P:=P) hI1 ht (CY hL1 _ _ hm1) (CY hL1 _ _ (AM hG hT hk)) hV1 hb hu
  exact Gq (by simp [ho]) (by simp [execOp,ho,e1]) (Good.from hL1 hE1 e2)
 case h_27 t m k v ho => -- mapUpdate
  split at hc<;>try (cases hc; done)
  rename_i kk et m' k' v' ht hm hk hv
  cases hc
  simp only [evOp] at h
  split at h<;>try (cases h; done)
  rename_i id v1 s1 heq hp
  split at h<;>try (cases h; done)
  rename_i es hb
  split at h<;>try (cases h; done)
  rename_i es' hu
  cases h
  have hm1:=AM hG hT hm
  rw [heq] at hm1
  obtain ⟨g1,hI1,hL1,hV1,hE1⟩:=FL hI (AM hG hT hv) hp
  obtain ⟨w',e1,e2⟩:=Pz (P:=P) hI1 ht (CY hL1 _ _ hm1) (CY hL1 _ _ (AM hG hT hk)) hV1 hb hu
  exact Gq (by simp [ho]) (by simp [execOp,ho,e1]) (Good.from hL1 hE1 e2)
 case h_28 t m k ok ho => -- lookup
  split at hc<;>try (cases hc; done)
  rename_i kk et m' k' ht hm hk
  split at hc<;>try (cases hc; done)
  rename_i z hz
  cases hc
  simp only [evOp] at h
  split at h<;>try (cases h; done)
  rename_i es hes
  split at h<;>try (cases h; done)
  · rename_i hr
    cases h
    obtain ⟨v,e1,e2⟩:=Nj (P:=P) hI ht hz (AM hG hT hm) (AM hG hT hk) hes hr ok
    exact AG (by simp [ho]) (by simp only [execOp,ho]; exact Aj e1) (AH hI e2)
  · rename_i v0 hr
    cases h
    obtain ⟨v,e1,e2⟩:=Nj (P:=P) hI ht hz (AM hG hT hm) (AM hG hT hk) hes hr ok
    exact AG (by simp [ho]) (by simp only [execOp,ho]; exact Aj e1) (AH hI e2)
 case h_29 t x y ho => -- makeSlice
  split at hc<;>try (cases hc; done)
  rename_i el x' y' hu hx hy
  split at hc<;>try (cases hc; done)
  rename_i i z hi hz
  split at hc<;>try (cases hc; done)
  rename_i hcc
  cases hc
  have hv:=AM hG hT hx
  have hw:=AM hG hT hy
  simp only [evOp] at h
  split at h<;>try (cases h; done)
  rename_i k1 n k2 c e1 e2
  split at h<;>try (cases h; done)
  rename_i hnc
  cases h
  rw [e1] at hv
  rw [e2] at hw
  obtain ⟨v,w',q1,q2⟩:=mks_ok (P:=P) hI hu hi hz hcc hv hw hnc
  exact AG (by simp [ho]) (by simp only [execOp,ho]; exact Aj q1) q2
 case h_30 name first caps ho => -- makeFunc of a method
  split at hc<;>try (cases hc; done)
  rename_i x hx1 hx2
  split at hc<;>try (cases hc; done)
  rename_i y hy
  cases hc
  have hv:=AM hG hT hy
  simp only [evOp] at h
  split at h<;>try (cases h; done)
  rename_i t v heq
  cases h
  rw [heq] at hv
  have h1:first.map a.eval=#[a.eval x]:=by apply Array.toList_inj.1; simp [hx1]
  have h2:caps.map a.eval=#[]:=by apply Array.toList_inj.1; simp [hx2]
  exact AG (v:=.func (.method name) #[a.eval x] #[]) (by simp [ho]) (by simp [execOp,ho,Instr.makeFunc,h1,h2]) (AH hI (by simp only [V] at hv ⊢; exact ⟨_,hv,by rw [JH]⟩))
 case h_31=>cases hc
end ops
end Go.Proofs.Ytfpoihibfajhlaa.Am

namespace Go.Proofs.Ytfpoihibfajhlaa.Am
section
variable {rd:Option Nat} {P:Program} {gt:Nat→Option (List AV)} {prog:Nat→Option Fun} {self:Self} {g:G} {s s':St} {w:World} {e:Tr} {a:Act} {o:Oper} {r:AV}
def Bq (P:Program):Prop:=∀ (f:Nat) (F:Func),P.funcs[f]? = some F→(F.name=="runtime.NumGoroutine")=false
theorem Cp (hN:Bq P) {f:Nat} {F:Func} {b:Code} (hF:P.funcs[f]? = some F) (hb:F.body=some b) (args:Array Value):(callFunc f args).run P w=.ok (.enter f args) w:=by
 have hne:¬ F.name="runtime.NumGoroutine":=by have:=hN f F hF; simpa using this
 simp [callFunc,hF,hne,hb]
theorem QE (hN:Bq P) (hX:Ctx P gt prog) {f r:Nat} {F:Func} (hF:P.funcs[f]? = some F) (hb:F.body=none) (hr:externRow F.name=some r) :
    ∃ ex,My r ex P∧∀ (args:Array Value) (v:Value) (w':World),(ex args).run P w=.ok v w'→(callFunc f args).run P w=.ok (.value v) w':=by
 obtain ⟨_,h2,ex,h3,h4⟩:=hX.ext f F r hF hb hr
 have hne:¬ F.name="runtime.NumGoroutine":=by have:=hN f F hF; simpa using this
 refine ⟨ex,h4,fun args v w' he=>?_⟩
 simp [callFunc,hF,hne,hb,h2,h3,he]
theorem QF (hN:Bq P) (hX:Ctx P gt prog) {f:Nat} {F:Func} (hF:P.funcs[f]? = some F) (hb:F.body=none) (hn:F.name=G6) {args:Array Value} {v:Value} {w':World}
    (he:(Extern.BytealgMakeNoZero.makeNoZero F.params F.resultTypes args).run P w=.ok v w'):(callFunc f args).run P w=.ok (.value v) w':=by
 obtain ⟨h2,h3⟩:=hX.mnz f F hF hb hn
 have hne:¬ F.name="runtime.NumGoroutine":=by have:=hN f F hF; simpa using this
 simp [callFunc,hF,hne,hb,h2,h3,he]
theorem QG (hN:Bq P) (hX:Ctx P gt prog) {f:Nat} {F:Func} (hF:P.funcs[f]? = some F) (hb:F.body=none) (hn:NB F=true) {args:Array Value} {v:Value} {w':World}
    (he:(Extern.SlicesOverlaps.overlaps F.params F.resultTypes args).run P w=.ok v w'):(callFunc f args).run P w=.ok (.value v) w':=by
 obtain ⟨h2,h3⟩:=hX.ovl f F hF hb hn
 have hne:¬ F.name="runtime.NumGoroutine":=by have:=hN f F hF; simpa using this
 simp [callFunc,hF,hne,hb,h2,h3,he]
/-! ### Rounds -/
theorem M7:∀ {ps:List Nat} {vs:List AV} {t t':Tr} {us:List Value} {tmps:Array Value},VT g s w t tmps→(∀ p∈ps,p < tmps.size)→VL g s w vs us→putL ps vs t=some t' →
    us.length=ps.length∧VT g s w t' ((ps.zip us).foldl (fun tmps x=>tmps.setIfInBounds x.1 x.2) tmps)∧((ps.zip us).foldl (fun tmps x=>tmps.setIfInBounds x.1 x.2) tmps).size=tmps.size
 | [],[],t,t',us,tmps,hT,_,hv,h=>by
   simp only [putL] at h; cases h
   simp only [VL] at hv; subst hv
   exact ⟨rfl,hT,rfl⟩
 | [],_::_,_,_,_,_,_,_,_,h=>by simp [putL] at h
 | _::_,[],_,_,_,_,_,_,_,h=>by simp [putL] at h
 | p::ps,v::vs,t,t',us,tmps,hT,hp,hv,h=>by
   simp only [putL] at h
   simp only [VL] at hv
   obtain ⟨u,us',rfl,h1,h2⟩:=hv
   obtain ⟨e1,e2,e3⟩:=M7 (Pq hT (hp p (by simp)) h1) (fun q hq=>by simpa using hp q (by simp [hq])) h2 h
   exact ⟨by simp [e1],by simpa using e2,by simpa using e3⟩
theorem Hg (hI:Inv (CRof P gt) g s w) {l st:Nat} {pend:Option C} {tm:Tr} {ps:List Nat} {x y:C} (hb:s.box? l=some (.loop st pend tm ps x y)) :
    ∃ L:Loop,w.heap[g.bx l]? = some (.loop L)∧LS st L.state∧PR pend L.pending∧VT g s w tm L.tmps∧(L.params.toList=ps∧∀ p∈ps,p < L.tmps.size)∧CRof P gt L.tmps.size L.assign x∧CRof P gt L.tmps.size L.body y ∧
     (Instr.getLoop (g.bx l)).run P w=.ok L w∧∀ L':Loop,(setObj (g.bx l) (.loop L')).run P w=.ok () { w with heap:=w.heap.setIfInBounds (g.bx l) (.loop L') }:=by
 obtain ⟨L,h1,h2,h3,h4,h5,h6,h7⟩:=hI.box l _ hb
 exact ⟨L,h1,h2,h3,h4,h5,h6,h7,by simp [Instr.getLoop,getObj,Sem.run,h1],fun L'=>by simp [setObj,Sem.run,h1]⟩
theorem M8 (hI:Inv (CRof P gt) g s w) {l st st':Nat} {pend pend':Option C} {tm:Tr} {ps:List Nat} {x y:C} (hb:s.box? l=some (.loop st pend tm ps x y)) {L:Loop} (hL:w.heap[g.bx l]? = some (.loop L))
    {state:LoopState} {pending:Option Code} (h1:LS st' state) (h2:PR pend' pending) :
    Inv (CRof P gt) g (s.setBox l (.loop st' pend' tm ps x y)) { w with heap:=w.heap.setIfInBounds (g.bx l) (.loop { L with state,pending }) } ∧
    Le g s w g (s.setBox l (.loop st' pend' tm ps x y)) { w with heap:=w.heap.setIfInBounds (g.bx l) (.loop { L with state,pending }) }∧Esc s (s.setBox l (.loop st' pend' tm ps x y)):=by
 obtain ⟨L',k1,k2,k3,k4,k5,k6,k7⟩:=hI.box l _ hb
 rw [hL] at k1
 simp only [Option.some.injEq,Obj.loop.injEq] at k1
 subst k1
 have hid:=box?_lt hb
 have e1:({ w with heap:=w.heap.setIfInBounds (g.bx l) (.loop { L with state,pending }) }:World).heap.size=w.heap.size:=by simp
 have e2:∀ b,b≠g.bx l→({ w with heap:=w.heap.setIfInBounds (g.bx l) (.loop { L with state,pending }) }:World).heap[b]? = w.heap[b]? := fun b hb=>by
  simp only [Array.getElem?_setIfInBounds]; rw [if_neg (Ne.symm hb)]
 have hnd:w.heap[g.bx l]? ≠ some (.deferred (some [])):=by rw [hL]; intro hh; cases hh
 have harr:Cx w { w with heap:=w.heap.setIfInBounds (g.bx l) (.loop { L with state,pending }) } (g.bx l):=fun a T' f hb'=>by rw [hL] at hb'; cases hb'
 have hLe:=Le.setBox (B:=.loop st' pend' tm ps x y) hI hb rfl e1 e2 hnd harr
 refine ⟨Inv.setBox hI hb rfl _ e1 e2 hnd harr ⟨{ L with state,pending },by simp [Array.getElem?_setIfInBounds,(hI.lt l hid).2],h1,h2,DU hLe k4,k5,k6,k7⟩,hLe,?_⟩
 exact IQ hI hid (fun b hv=>⟨_,hb,hv⟩)
theorem OX (hI:Inv (CRof P gt) g s w) {l st:Nat} {pend:Option C} {tm:Tr} {ps:List Nat} {x y:C} (hb:s.box? l=some (.loop st pend tm ps x y)) {L:Loop} (hL:w.heap[g.bx l]? = some (.loop L)) (L':Loop) :
    Inv (CRof P gt) g (s.setBox l .used) { w with heap:=w.heap.setIfInBounds (g.bx l) (.loop L') }∧Le g s w g (s.setBox l .used) { w with heap:=w.heap.setIfInBounds (g.bx l) (.loop L') }∧Esc s (s.setBox l .used):=by
 have hid:=box?_lt hb
 have e1:({ w with heap:=w.heap.setIfInBounds (g.bx l) (.loop L') }:World).heap.size=w.heap.size:=by simp
 have e2:∀ b,b≠g.bx l→({ w with heap:=w.heap.setIfInBounds (g.bx l) (.loop L') }:World).heap[b]? = w.heap[b]? := fun b hb=>by
  simp only [Array.getElem?_setIfInBounds]; rw [if_neg (Ne.symm hb)]
 have hnd:w.heap[g.bx l]? ≠ some (.deferred (some [])):=by rw [hL]; intro hh; cases hh
 have harr:Cx w { w with heap:=w.heap.setIfInBounds (g.bx l) (.loop L') } (g.bx l):=fun a T' f hb'=>by rw [hL] at hb'; cases hb'
 exact ⟨Inv.setBox hI hb rfl _ e1 e2 hnd harr trivial,Le.setBox hI hb rfl _ e1 e2 hnd harr,IQ hI hid (fun b hv=>hv.elim)⟩
theorem LJ (hI:Inv (CRof P gt) g s w) {l:Nat} {j:Option C} {jc:Option Code} (hj:PR j jc) (h:endY s l j=some (r,s')) :
    ∃ v w',(Instr.endRound (g.bx l) jc).run P w=.ok v w'∧Good (CRof P gt) g s w s' r v w':=by
 unfold endY at h
 split at h<;>try (cases h; done)
 rename_i tm ps x y hb
 cases h
 obtain ⟨L,h1,h2,h3,h4,h5,h6,h7,h8,h9⟩:=Hg hI hb
 have hsome:j.isNone=jc.isNone:=by
  cases j<;>cases jc<;>simp_all [PR]
 obtain ⟨k1,k2,k3⟩:=M8 (st':=if j.isNone then 0 else 2) (pend':=j) (state:=if jc.isNone then .ready else .done) (pending:=jc) hI hb h1 (by rw [hsome]; cases jc<;>trivial) hj
 refine ⟨.bool jc.isNone,_,?_,g,k1,k2,by simp only [V]; rw [hsome],k3⟩
 simp only [Instr.endRound,Sem.run_bind,h8,Result.andThen_ok,h9,Sem.run_pure]
theorem OY (hS:SelfOk P gt self) (hI:Inv (CRof P gt) g s w) (hG:GT gt g w) {l:Nat} {args:List AV} {vs:List Value} (hv:VL g s w args vs) (h:G8 self (.yld l) args s=some (r,s')) :
    ∃ (f:FuncId) (tmps:Array Value) (x y:Code),(Instr.yield (g.bx l) vs.toArray).run P w=.ok (.round (g.bx l) f tmps x y) w ∧
     RoundIn (Ee rd) 0 P (g.bx l) f tmps x y w fun e w''=>∃ v,e=.returned v∧Good (CRof P gt) g s w s' r v w'':=by
 simp only [G8] at h
 split at h<;>try (cases h; done)
 rename_i tm ps x y hb
 split at h<;>try (cases h; done)
 rename_i t ht
 obtain ⟨L,h1,h2,h3,h4,h5,h6,h7,h8,h9⟩:=Hg hI hb
 obtain ⟨n1,n2,pops1,c1⟩:=h6
 obtain ⟨_,m2,pops2,c2⟩:=h7
 obtain ⟨h5,h5'⟩:=h5
 obtain ⟨p1,p2,p3⟩:=M7 h4 h5' hv ht
 have hsz:vs.toArray.size=L.params.size:=by
  rw [← h5] at p1; simpa using p1
 refine ⟨L.fn,(L.params.zip vs.toArray).foldl (fun tmps (t,a)=>tmps.setIfInBounds t a) L.tmps,L.assign,L.body,?_,?_⟩
 · simp only [Instr.yield,Sem.run_bind,h8,Result.andThen_ok]
   rw [if_neg (fun hh=>hh hsz)]
   rfl
 · have htm:(L.params.zip vs.toArray).foldl (fun tmps (t,a)=>tmps.setIfInBounds t a) L.tmps=(ps.zip vs).foldl (fun tmps x=>tmps.setIfInBounds x.1 x.2) L.tmps:=by
    rw [← h5,← Array.foldl_toList,Array.toList_zip]
   rw [htm]
   split at h<;>try (cases h; done)
   rename_i t1 s1 ha
   split at h<;>try (cases h; done)
   rename_i tm2 ps2 x2 y2 hb2
   refine roundIn_of_wpIn (F:=Ee rd) (n:=0) trivial ?_
   have hA:=hS.code _ _ _ _ _ _ ha L.tmps.size pops1 L.assign n1 c1 g w (some (g.bx l)) { tmps:=(ps.zip vs).foldl (fun tmps x=>tmps.setIfInBounds x.1 x.2) L.tmps,defers:=[] } (fun _=>n2) hI hG p2 p3
   refine wpIn_mono hA.1 ?_
   rintro ex a1 w1 ⟨hex,hsz1,⟨g1,hI1,hL1,hT1,hE1⟩,_,_⟩
   cases ex<;>simp only [E5] at hex
   simp only [Exit.then]
   obtain ⟨L2,q1,q2,q3,q4,q5,q6,q7,q8,q9⟩:=Hg hI1 hb2
   obtain ⟨r1,r2,r3⟩:=M8 (st':=1) (pend':=none) (state:=.busy) (pending:=L2.pending) hI1 hb2 q1 trivial q3
   have hst:L2.state=.ready:=by
    cases hs:L2.state<;>simp_all [LS]
   have hbx:g1.bx l=g.bx l:=hL1.bx l (box?_lt hb)
   rw [← hbx]
   refine ⟨_,by simp only [Instr.beginRound,Sem.run_bind,q8,Result.andThen_ok,q9,hst]; rfl,?_⟩
   have hB:∀ x t2 s2,self.code y t1 (s1.setBox l (.loop 1 none tm2 ps2 x2 y2))=some (x,t2,s2)→_:=fun x t2 s2 hx =>
    hS.code _ _ _ _ _ _ hx L.tmps.size pops2 L.body n1 c2 g1 _ (some (g1.bx l)) a1 (fun _=>m2) r1 ((hG.mono hL1).mono r2) (DU r2 hT1) (by rw [hsz1]; exact p3)
   have hEsc:Esc s (s1.setBox l (.loop 1 none tm2 ps2 x2 y2)):=Esc.trans hL1.nb hE1 r3
   have hLe:=hL1.trans r2
   split at h<;>try (cases h; done)
   all_goals
    rename_i hx
    refine wpIn_mono (hB _ _ _ hx).1 ?_
    rintro ex2 a2 w2 ⟨hex2,_,⟨g2,hI2,hL2,_,hE2⟩,_,_⟩
    have hbx2:g2.bx l=g1.bx l:=hL2.bx l (Nat.lt_of_lt_of_le (box?_lt hb) hLe.nb)
    cases ex2<;>simp only [E5] at hex2
   · obtain ⟨v,w3,e1,e2⟩:=LJ hI2 (j:=none) (jc:=none) trivial h
     rw [hbx2] at e1
     exact ⟨v,w3,e1,v,rfl,Good.from (hLe.trans hL2) (Esc.trans hLe.nb hEsc hE2) e2⟩
   · subst hex2
     obtain ⟨v,w3,e1,e2⟩:=LJ hI2 (j:=some (.exit _)) (jc:=some (.exit _)) rfl h
     rw [hbx2] at e1
     exact ⟨v,w3,e1,v,rfl,Good.from (hLe.trans hL2) (Esc.trans hLe.nb hEsc hE2) e2⟩
   · obtain ⟨v,w3,e1,e2⟩:=LJ hI2 (j:=some .ret) (jc:=some .ret) trivial h
     rw [hbx2] at e1
     exact ⟨v,w3,e1,v,rfl,Good.from (hLe.trans hL2) (Esc.trans hLe.nb hEsc hE2) e2⟩
end
end Go.Proofs.Ytfpoihibfajhlaa.Am

namespace Go.Proofs.Ytfpoihibfajhlaa.Am
variable {CR:Nat→Code→C→Prop} {P:Program} {g:G} {s s':St} {w:World}
theorem Nn {arr:Array Value} {l:List Value} (h:∀ (j:Nat) v,l[j]? = some v→arr[j]? = some v):∃ rest,arr.toList=l++rest:=by
 refine ⟨arr.toList.drop l.length,?_⟩
 apply List.ext_getElem?
 intro j
 by_cases hj:j < l.length
 · rw [List.getElem?_append_left hj]
   have:=h j l[j] (List.getElem?_eq_getElem hj)
   rw [List.getElem?_eq_getElem hj,Array.getElem?_toList]; exact this
 · rw [List.getElem?_append_right (by omega),List.getElem?_drop]
   congr 1; omega
theorem La (hI:Inv CR g s w) {k:Nat} {t:Tok} (ht:s.tok? k=some t):Inv CR g (s.killTok k) w∧Le g s w g (s.killTok k) w∧Esc s (s.killTok k):=by
 have hk:=tok?_lt ht
 have htok:∀ j u,(s.killTok k).tok? j=some u→j≠k∧s.tok? j=some u:=fun j u hj=>by
  rw [killTok_tok? hI.lenT hk] at hj
  by_cases hjk:j=k
  · rw [if_pos hjk] at hj; cases hj
  · rw [if_neg hjk] at hj; exact ⟨hjk,hj⟩
 have hL:Le g s w g (s.killTok k) w:={
  io:=⟨rfl,rfl⟩
  own:=fun b hb ho=>ho
  frame:=fun _ _ _=>⟨rfl,rfl⟩
  base:=rfl
  size:=Nat.le_refl _
  low:=fun _ _=>rfl
  prot:=fun _=>Nat.le_refl _
  cell:=fun _ _ _ _ hc=>hc
  dfr:=fun _ hb=>hb
  arr:=fun _=>.same rfl
  nb:=Nat.le_refl _
  bx:=fun _ _=>rfl
  nt:=Nat.le_refl _
  has:=fun j u t' hkj hj=>hkj.2 t' (htok j t' hj).2
  ok:=fun j u hkj hj=>by
   rw [EL] at hj ⊢
   obtain ⟨t',hj,hu⟩:=hj
   exact ⟨t',(htok j t' hj).2,hu⟩
  tok:=fun j t t' hjn hj hj' _=>by
   have:=(htok j t' hj').2
   rw [hj] at this; cases this
   exact ⟨fun _ _ _ hc=>hc,.inl ⟨rfl,Nat.le_refl _⟩⟩ }
 refine ⟨?_,hL,Esc.same rfl fun _ _=>rfl⟩
 exact {
  lenB:=hI.lenB
  lenT:=by simp [St.killTok,hI.lenT]
  base:=hI.base
  fresh:=hI.fresh
  lt:=hI.lt
  pr:=hI.pr
  box:=fun id B hB=>(hI.box id B hB).mono hL rfl
  inj:=hI.inj
  tlt:=fun j u hj=>hI.tlt j u (htok j u hj).2
  tok:=fun j u hj=>{ hI.tok j u (htok j u hj).2 with }
  tall:=hI.tall
  tinj:=fun i j u v hi hj=>hI.tinj i j u v (htok i u hi).2 (htok j v hj).2
  btk:=fun i B j u hB lb hj=>hI.btk i B j u hB lb (htok j u hj).2 }
theorem No (hI:Inv CR g s w) {k:Nat} (hk:k < s.nt) (hbase:g.base≤(g.tk k).blk) (hprot:g.prot (g.tk k).blk=0) (hnb:∀ i B,s.box? i=some B→B.live=true→g.bx i≠(g.tk k).blk)
    (hnt:∀ j u,s.tok? j=some u→(g.tk j).blk≠(g.tk k).blk) {arr:Array Value} {T:Nat} {fr:Nat×Nat} (hh:w.heap[(g.tk k).blk]? = some (.cells arr T fr)) (hfr:fr.2=0) {l:List AV} {vs rest:List Value}
    (hl:arr.toList=vs++rest) (hV:VL g s w l vs) {rm:Nat} (hrm:rm≤arr.size) :
    ∃ g',Inv CR g' (s.new (.row T l false rm)) w∧Le g s w g' (s.new (.row T l false rm)) w∧g'.bx s.nb=(g.tk k).blk∧Esc s (s.new (.row T l false rm)):=by
 have hlt:(g.tk k).blk < w.heap.size:=hI.tall k hk
 let g':G:={ g with bx:=fun id=>if id=s.nb then (g.tk k).blk else g.bx id }
 have hbx:∀ id,id < s.nb→g'.bx id=g.bx id:=fun id hid=>by simp only [g']; rw [if_neg (by omega)]
 have hboxes:∀ id B,(s.new (.row T l false rm)).box? id=some B→(id=s.nb∧B=.row T l false rm)∨(id≠s.nb∧s.box? id=some B):=fun id B hB=>by
  rw [new_box?] at hB
  by_cases hid:id=s.nb
  · rw [if_pos hid] at hB; cases hB; exact .inl ⟨hid,rfl⟩
  · rw [if_neg hid] at hB; exact .inr ⟨hid,hB⟩
 have htok:∀ j,(s.new (.row T l false rm)).tok? j=s.tok? j:=fun j=>rfl
 have hL:Le g s w g' (s.new (.row T l false rm)) w:={
  io:=⟨rfl,rfl⟩
  own:=fun b hb ho=>by
   rcases ho with ⟨id,hid,he⟩ | ⟨j,hj,he⟩
   · by_cases h:id=s.nb
     · subst h; simp only [g',if_pos] at he; exact .inr ⟨k,hk,he⟩
     · have hid':id < s.nb:=by simp [St.new] at hid; omega
       exact .inl ⟨id,hid',by rw [← hbx id hid']; exact he⟩
   · exact .inr ⟨j,hj,he⟩
  frame:=fun _ _ _=>⟨rfl,rfl⟩
  base:=rfl
  size:=Nat.le_refl _
  low:=fun _ _=>rfl
  prot:=fun _=>Nat.le_refl _
  cell:=fun _ _ _ _ hc=>hc
  dfr:=fun _ hb=>hb
  arr:=fun _=>.same rfl
  nb:=by simp [St.new]
  bx:=hbx
  nt:=Nat.le_refl _
  has:=fun j u t' hkj hj=>hkj.2 t' hj
  ok:=fun j u hkj hj=>hj
  tok:=fun j t t' hjn hj hj' _=>by
   rw [htok,hj] at hj'; cases hj'
   exact ⟨fun _ _ _ hc=>hc,.inl ⟨rfl,Nat.le_refl _⟩⟩ }
 refine ⟨g',?_,hL,by simp only [g',if_pos],HF s _⟩
 exact {
     lenB:=by simp [St.new,hI.lenB]
     lenT:=hI.lenT
     base:=hI.base
     fresh:=hI.fresh
     lt := fun id hid=>by
      by_cases h:id=s.nb
      · subst h; simp only [g',if_pos]; exact ⟨hbase,hlt⟩
      · have hid':id < s.nb:=by simp [St.new] at hid; omega
        rw [hbx id hid']; exact hI.lt id hid'
     pr:=fun id B hB hf=>by
      rcases hboxes id B hB with ⟨rfl,rfl⟩ | ⟨hne,hB⟩
      · simp only [g',if_pos]; exact hprot
      · rw [hbx id (box?_lt hB)]; exact hI.pr id B hB hf
     box:=fun id B hB=>by
      rcases hboxes id B hB with ⟨rfl,rfl⟩ | ⟨hne,hB⟩
      · simp only [g',if_pos]
        exact ⟨arr,fr,hh,fun _=>hfr,vs,rest,hl,Ap hL _ _ hV,hrm⟩
      · rw [hbx id (box?_lt hB)]
        exact (hI.box id B hB).mono hL rfl
     inj:=fun i j A B hA hB la lb he=>by
      rcases hboxes i A hA with ⟨rfl,rfl⟩ | ⟨hi,hA⟩<;>rcases hboxes j B hB with ⟨rfl,rfl⟩ | ⟨hj,hB⟩
      · rfl
      · rw [hbx j (box?_lt hB)] at he
        simp only [g',if_pos] at he
        exact absurd he.symm (hnb j B hB lb)
      · rw [hbx i (box?_lt hA)] at he
        simp only [g',if_pos] at he
        exact absurd he (hnb i A hA la)
      · rw [hbx i (box?_lt hA),hbx j (box?_lt hB)] at he
        exact hI.inj i j A B hA hB la lb he
     tlt:=hI.tlt
     tok:=fun j u hj=>{ hI.tok j u hj with }
     tall:=hI.tall
     tinj:=hI.tinj
     btk:=fun i B j u hB lb hj he=>by
      rcases hboxes i B hB with ⟨rfl,rfl⟩ | ⟨hne,hB⟩
      · simp only [g',if_pos] at he
        exact hnt j u hj he.symm
      · rw [hbx i (box?_lt hB)] at he
        exact hI.btk i B j u hB lb hj he }
theorem MJ (hI:Inv CR g s w) {es k:Nat} {xs:List AV} {v:Value} {T:Nat} {ve:Nat} (hv:V g s w (.sl es xs (.tok k ve)) v) (ht:s.tok? k=some ⟨xs.length,ve,0,some T⟩) :
    ∃ cap,v=.slice (some ⟨(g.tk k).blk,0,none⟩) xs.length cap∧1≤es∧xs.length≤cap∧∀ (n:Nat) (e:Nat×Bool) (rm:Nat),n=s.lo∨n=s.nb→(e.1≤cap*es∧(e.2=true→cap*es=e.1))→rm≤cap*es →
     ∃ g',Inv CR g' (({ s.killTok k with lo:=n }:St).new (.row T (EU xs) false rm)) w∧Le g ({ s.killTok k with lo:=n }:St) w g' (({ s.killTok k with lo:=n }:St).new (.row T (EU xs) false rm)) w ∧
      Esc ({ s.killTok k with lo:=n }:St) (({ s.killTok k with lo:=n }:St).new (.row T (EU xs) false rm)) ∧
      V g' (({ s.killTok k with lo:=n }:St).new (.row T (EU xs) false rm)) w (.bl s.nb es 0 xs.length e) v:=by
 have hk:=tok?_lt ht
 obtain ⟨hIk,hLk,_⟩:=La hI ht
 have htok:∀ j u,(s.killTok k).tok? j=some u→j≠k∧s.tok? j=some u:=fun j u hj=>by
  rw [killTok_tok? hI.lenT hk] at hj
  by_cases hjk:j=k
  · rw [if_pos hjk] at hj; cases hj
  · rw [if_neg hjk] at hj; exact ⟨hjk,hj⟩
 simp only [V] at hv
 obtain ⟨b,o,cap,vs,rfl,hz,hal,hkn,hv⟩:=hv
 have hok:s.ok (.tok k ve)=true:=by rw [EL]; exact ⟨_,ht,rfl⟩
 obtain ⟨h1,h2,h3,h4⟩:=hv hok
 obtain ⟨rfl,hes,_,h4⟩:=h4
 obtain ⟨_,hloc⟩:=h4 _ ht
 have hloc:=hloc rfl
 have hT:=hI.tok k _ ht
 have hprot:g.prot (g.tk k).blk=0:=by have:=hT.prot; simp only at this; omega
 have hblk:(g.tk k).blk=b:=by rw [hloc]
 obtain ⟨arr,T',fr,r1,r2,r3,r4⟩:=hT.row
 obtain ⟨rfl,hfr⟩:=r4 T rfl
 have hpre:∃ rest,arr.toList=flat vs++rest:=Nn fun j v hj=>by
  have:=h2 j v hj
  rw [← hblk] at this
  simp only [World.cell?,r1] at this
  simpa using this
 obtain ⟨rest,hrest⟩:=hpre
 refine ⟨cap,by rw [hblk],hz.1,hz.2,fun n e rm _ he hrm=>?_⟩
 have hIl:Inv CR g ({ s.killTok k with lo:=n }:St) w:=hIk.lo n
 have hV:VL g ({ s.killTok k with lo:=n }:St) w (EU xs) (flat vs):=Ap (hLk.trans (Le.lo n)) _ _ (Hn h1)
 have hcs:cap*es≤arr.size:=by rw [hloc rfl] at r2; exact r2
 obtain ⟨g',i1,i2,i3,i4⟩:=No hIl (k:=k) hk hT.base hprot (fun i B hB lb=>hI.btk i B k _ hB lb ht) (fun j u hj he=>(htok j u hj).1 (hI.tinj j k _ _ (htok j u hj).2 ht he)) r1 (by simp only at hfr; omega) hrest hV (rm:=rm) (by omega)
 refine ⟨g',i1,i2,i4,?_⟩
 simp only [V]
 refine ⟨0,cap,?_,by simp [St.new,St.killTok],hz,by simpa using he,(fun _=>rfl),Nat.le_refl _,fun _=>⟨arr,T',fr,?_,fun _=>by omega⟩⟩
 all_goals have:g'.bx s.nb=(g.tk k).blk:=i3
 · rw [this,hblk]
 · rw [this]; exact r1
theorem MK (hI:Inv CR g s w) {x r:AV} {v:Value} (hv:V g s w x v) (h:Mm s x=some (r,s')):Good CR g s w s' r v w:=by
 unfold Mm at h
 split at h
 case h_2=>cases h; exact AH hI hv
 rename_i es xs k ver
 split at h
 case h_2=>cases h; exact AH hI hv
 rename_i fr0 ve pu T ht
 split at h
 case isFalse=>cases h; exact AH hI hv
 rename_i hc
 obtain ⟨rfl,rfl,rfl⟩:=hc
 cases h
 obtain ⟨hIk,hLk,hEk⟩:=La hI ht
 obtain ⟨cap,rfl,h1,h2,key⟩:=MJ hI hv ht
 have hle:=Nat.mul_le_mul_right es h2
 obtain ⟨g',i1,i2,i3,i4⟩:=key s.lo (xs.length*es,false) 0 (.inl rfl) ⟨hle,fun h=>by cases h⟩ (Nat.zero_le _)
 exact ⟨g',i1,hLk.trans i2,i4,Esc.trans (Nat.le_refl _) hEk i3⟩
theorem Np (hI:Inv CR g s w) {id T off:Nat} {l:List AV} {a:AV} {u:Value} (hb:s.box? id=some (.cells T l)) (hoff:off < l.length) (hu:∀ arr,w.heap[g.bx id]? = some (.cells arr T (0,0))→arr.toList[off]? = some u) (hv:V g s w a u) :
    Inv CR g (esc (s.setBox id (.cells T (l.set off a))) id a) w∧Le g s w g (esc (s.setBox id (.cells T (l.set off a))) id a) w∧Esc s (esc (s.setBox id (.cells T (l.set off a))) id a):=by
 obtain ⟨arr,h1,h2,_⟩:=Gf hI hb
 have hid:=box?_lt hb
 have hu:=hu arr h1
 have hnd:w.heap[g.bx id]? ≠ some (.deferred (some [])):=by rw [h1]; intro hh; cases hh
 have hL:=Le.setBox (B:=.cells T (l.set off a)) (w':=w) hI hb rfl rfl (fun _ _=>rfl) hnd (.same rfl)
 have hlist:arr.toList=arr.toList.take off++([u]++arr.toList.drop (off+1)):=by
  rw [List.getElem?_eq_some_iff] at hu
  obtain ⟨hlt,rfl⟩:=hu
  rw [List.singleton_append,← List.drop_eq_getElem_cons hlt,List.take_append_drop]
 have hset:l.take off++([a]++l.drop (off+1))=l.set off a:=by
  rw [List.set_eq_take_append_cons_drop,if_pos hoff]; rfl
 have hVL:VL g (s.setBox id (.cells T (l.set off a))) w (l.set off a) arr.toList:=by
  obtain ⟨m,hm⟩:∃ m,l.set off a=m:=⟨_,rfl⟩
  rw [hm] at hL hset ⊢
  have key:=Bf (E0 off (Ap hL _ _ h2)) (Bf (Ap hL [a] [u] (by simp only [VL]; exact ⟨u,[],rfl,hv,rfl⟩)) (EP (off+1) (Ap hL _ _ h2)))
  rw [hset,← hlist] at key
  exact key
 have hI':=Inv.setBox (B:=.cells T (l.set off a)) (w':=w) hI hb rfl rfl (fun _ _=>rfl) hnd (.same rfl) ⟨arr,h1,hVL⟩
 obtain ⟨k,hk1,hk2,hk3⟩:=IE (s.setBox id (.cells T (l.set off a))) id a
 rw [hk1]
 refine ⟨hI'.lo k,hL.trans (Le.lo k),⟨hk2,fun nb hnb hlo jd B' hjd hB' x hx=>?_⟩⟩
 have hB2:(s.setBox id (.cells T (l.set off a))).box? jd=some B':=hB'
 rw [setBox_box? hI.lenB hid] at hB2
 by_cases hj:jd=id
 · subst hj
   rw [if_pos rfl] at hB2; cases hB2
   simp only [vals] at hx
   rcases List.mem_or_eq_of_mem_set hx with hx | rfl
   · exact .inr ⟨_,hb,hx⟩
   · cases hr:x.refs with
     | false=>exact .inl rfl
     | true =>
       have:=hk3 hr
       simp only at hlo; omega
 · rw [if_neg hj] at hB2
   exact .inr ⟨B',hB2,hx⟩
theorem Lb (hI:Inv CR g s w) {x r:AV} {v:Value} (hv:V g s w x v) (h:Hc s x=some (r,s')):Good CR g s w s' r v w:=by
 unfold Hc at h
 split at h
 case h_2=>exact MK hI hv h
 rename_i id off
 split at h
 case h_2=>cases h; exact AH hI hv
 rename_i T l hb
 split at h
 case h_2=>cases h; exact AH hI hv
 rename_i es xs k ve ha
 split at h
 case h_2=>cases h
 rename_i a' s1 ht
 cases h
 obtain ⟨arr,h1,h2,_⟩:=Gf hI hb
 obtain ⟨u,hu1,hu2⟩:=L4 h2 ha
 obtain ⟨g1,hI1,hL1,hV1,hE1⟩:=MK hI hu2 ht
 have hvp:=CY hL1 _ _ hv
 simp only [V] at hv hvp
 obtain ⟨hid,rfl⟩:=hv
 obtain ⟨_,hbx⟩:=hvp
 have hbx:g1.bx id=g.bx id:=by
  simp only [Value.pointer.injEq,Option.some.injEq,Addr.mk.injEq] at hbx
  exact hbx.1.symm
 have hb1:s1.box? id=some (.cells T l):=by
  unfold Mm at ht
  simp only at ht
  split at ht
  · split at ht
    · cases ht
      rw [new_box?,if_neg (by show ¬ id=s.nb; omega)]
      exact hb
    · cases ht; exact hb
  · cases ht; exact hb
 obtain ⟨i1,i2,i3⟩:=Np hI1 hb1 (List.getElem?_eq_some_iff.1 ha).1 (u:=u) (fun arr' h'=>by
  rw [hbx,h1] at h'
  cases h'
  exact hu1) hV1
 have hnb:s.nb≤s1.nb:=hL1.nb
 refine ⟨g1,i1,hL1.trans i2,?_,Esc.trans hnb hE1 i3⟩
 simp only [V]
 refine ⟨?_,by rw [hbx]⟩
 obtain ⟨k',hk1,_,_⟩:=IE (s1.setBox id (.cells T (l.set off a'))) id a'
 rw [hk1]
 show id < s1.nb
 omega
theorem ML (hI:Inv CR g s w) {x r:AV} {v:Value} (hv:V g s w x v) (h:frz s x=some (r,s')):Good CR g s w s' r v w:=by
 unfold frz at h
 split at h
 case h_2=>exact FL hI hv h
 rename_i id es off n e
 split at h
 case h_2=>cases h; exact AH hI hv
 rename_i T l fz rm hb
 split at h<;>try (cases h; done)
 rename_i cs hcut
 split at h<;>try (cases h; done)
 rename_i hc
 obtain ⟨hoff,hone,hes⟩:=hc
 cases h
 simp only [V] at hv
 obtain ⟨o,cap,rfl,hid,hz,_,ho1,ho2⟩:=hv
 obtain ⟨arr,fr,r1,hfr,vs,rest,r2,r3,r5⟩:=hI.box id _ hb
 have hlc:=r3.length
 let g':G:={ g with prot:=fun b=>if b=g.bx id then max (g.prot b) l.length else g.prot b }
 have hpm:∀ b,g.prot b≤g'.prot b:=fun b=>by simp only [g']; split<;>omega
 have hbs:∀ j,(s.setBox id (.row T l true rm)).box? j=if j=id then some (.row T l true rm) else s.box? j:=setBox_box? hI.lenB hid
 have hold:∀ j B,(s.setBox id (.row T l true rm)).box? j=some B→∃ B0,s.box? j=some B0∧(j≠id→B0=B)∧(B.live=true→B0.live=true):=fun j B hB=>by
  rw [hbs] at hB
  by_cases hj:j=id
  · subst hj; exact ⟨_,hb,fun hh=>absurd rfl hh,fun _=>rfl⟩
  · rw [if_neg hj] at hB; exact ⟨B,hB,fun _=>rfl,fun h=>h⟩
 have hL:Le g s w g' (s.setBox id (.row T l true rm)) w:={
  io:=⟨rfl,rfl⟩
  own:=fun _ _ h=>h
  frame:=fun b _ ho=>⟨rfl,by simp only [g']; rw [if_neg fun he=>ho (.inl ⟨id,hid,he.symm⟩)]⟩
  base:=rfl
  size:=Nat.le_refl _
  low:=fun _ _=>rfl
  prot:=hpm
  cell:=fun _ _ _ _ hc=>hc
  dfr:=fun _ hb=>hb
  arr:=fun _=>.same rfl
  nb:=Nat.le_refl _
  bx:=fun _ _=>rfl
  nt:=Nat.le_refl _
  has:=fun _ _ _ hk h=>hk.2 _ h
  ok:=fun _ _ _ h=>h
  tok:=DV (fun _=>rfl) (fun _ _ _ _ _ _ hc=>hc) (fun _ _=>rfl) }
 have hlive:(Box.row T l fz rm).live=true:=rfl
 refine ⟨g',?_,hL,?_,IQ hI hid fun a ha=>⟨_,hb,ha⟩⟩
 · exact {
    lenB:=by simp [St.setBox,hI.lenB]
    lenT:=hI.lenT
    base:=hI.base
    fresh:=fun b hb=>by
     have:=(hI.lt id hid).2
     simp only [g']; rw [if_neg (by omega)]; exact hI.fresh b hb
    lt:=hI.lt
    pr := fun j B hB hf=>by
     rw [hbs] at hB
     by_cases hj:j=id
     · subst hj; rw [if_pos rfl] at hB; cases hB; simp [Box.frz] at hf
     · rw [if_neg hj] at hB
       have hne:g.bx j≠g.bx id:=fun he=>hj (hI.inj j id B _ hB hb (Fu hf) hlive he)
       simp only [g']; rw [if_neg hne]; exact hI.pr j B hB hf
    box:=fun j B hB=>by
     rw [hbs] at hB
     by_cases hj:j=id
     · subst hj; rw [if_pos rfl] at hB; cases hB
       exact ⟨arr,fr,r1,(fun hh=>by cases hh),vs,rest,r2,Ap hL _ _ r3,r5⟩
     · rw [if_neg hj] at hB; exact (hI.box j B hB).mono hL rfl
    inj:=fun i j A B hA hB la lb he=>by
     obtain ⟨A0,a1,_,a3⟩:=hold i A hA
     obtain ⟨B0,b1,_,b3⟩:=hold j B hB
     exact hI.inj i j A0 B0 a1 b1 (a3 la) (b3 lb) he
    tlt:=hI.tlt
    tok:=fun k t ht=>by
     have h0:=hI.tok k t ht
     refine { h0 with prot:=?_ }
     have hne:(g.tk k).blk≠g.bx id:=fun he=>hI.btk id _ k t hb hlive ht he.symm
     simp only [g']; rw [if_neg hne]; exact h0.prot
    tall:=hI.tall
    tinj:=hI.tinj
    btk:=fun i B k t hB lb ht=>by
     obtain ⟨B0,b1,_,b3⟩:=hold i B hB
     exact hI.btk i B0 k t b1 (b3 lb) ht }
 · obtain ⟨c1,c2,c3⟩:=Kf r3 hcut
   obtain ⟨us,u1,u2,u3⟩:=E1 hes n (l:=cs) c2 hone c1
   have hcl:(Es es n cs).length=n:=EB es n cs (by omega) hes
   have hnl:off+n*es≤l.length:=by
    have:cs.length=((l.drop off).take (n*es)).length:=by rw [c3]
    rw [List.length_take,List.length_drop] at this
    omega
   simp only [V]
   refine ⟨g.bx id,o,cap,us,by rw [hcl],⟨hes,by rw [hcl]; exact hz.2⟩,u3,trivial,fun _=>⟨Ap hL _ _ u1,?_,?_,?_⟩⟩
   · rw [u2]
     intro j v hj
     have hjl:j < n*es:=by have:=(List.getElem?_eq_some_iff.1 hj).1; rw [List.length_take] at this; omega
     have hcap:0 < cap:=by
      have:0 < n:=by
       rcases Nat.eq_zero_or_pos n with h0 | h0
       · subst h0; simp at hjl
       · exact h0
      omega
     rw [ho1 hcap]
     have h1:vs[off+j]? = some v:=by
      rw [List.getElem?_take_of_lt hjl,List.getElem?_drop] at hj; exact hj
     simp only [World.cell?,r1]
     have:arr.toList[off+j]? = some v:=by rw [r2,List.getElem?_append_left (List.getElem?_eq_some_iff.1 h1).1]; exact h1
     simpa using this
   · rw [hcl]
     right
     simp only [g',if_pos]
     omega
   · rw [hcl]; exact hz.2
theorem Nq:∀ {l:List AV} {g:G} {s s':St} {us:List Value} {vs:List AV},Inv CR g s w→VL g s w l us→frzL s l=some (vs,s')→O0 CR g s w s' vs us w
 | [],g,s,s',us,vs,hI,hv,h=>by
   simp only [frzL] at h; cases h
   exact ⟨g,hI,Le.refl _ _ _,hv,Esc.refl _⟩
 | a::l,g,s,s',us,vs,hI,hv,h=>by
   simp only [frzL] at h
   split at h<;>try (cases h; done)
   rename_i a1 s1 h1
   split at h<;>try (cases h; done)
   rename_i l1 s2 h2
   cases h
   simp only [VL] at hv
   obtain ⟨v,r,rfl,hv1,hv2⟩:=hv
   obtain ⟨g1,hI1,hL1,hV1,hE1⟩:=ML hI hv1 h1
   obtain ⟨g2,hI2,hL2,hV2,hE2⟩:=Nq hI1 (Ap hL1 _ _ hv2) h2
   exact ⟨g2,hI2,hL1.trans hL2,by simp only [VL]; exact ⟨v,r,rfl,CY hL2 _ _ hV1,hV2⟩,Esc.trans hL1.nb hE1 hE2⟩
end Go.Proofs.Ytfpoihibfajhlaa.Am

namespace Go.Proofs.Ytfpoihibfajhlaa.Am
mutual
theorem Hs:∀ (a b:AV),beqA a b=true→a=b
 | .b x,b,h=>by cases b<;>simp_all [beqA]
 | .i k n,b,h=>by cases b<;>simp_all [beqA]
 | .s l,b,h=>by
   cases b<;>simp only [beqA] at h<;>try (cases h; done)
   rw [JY h]
 | .np,b,h=>by cases b<;>simp_all [beqA]
 | .p x o,b,h=>by
   cases b<;>simp only [beqA] at h<;>try (cases h; done)
   rw [Bool.and_eq_true] at h
   rw [Nat.eq_of_beq_eq_true h.1,Nat.eq_of_beq_eq_true h.2]
 | .ep l o c,b,h=>by
   cases b<;>simp only [beqA] at h<;>try (cases h; done)
   rw [Bool.and_eq_true,Bool.and_eq_true] at h
   rw [EI l _ h.1,Nat.eq_of_beq_eq_true h.2.1,of_decide_eq_true h.2.2]
 | .nsl,b,h=>by cases b<;>simp_all [beqA]
 | .wz,b,h=>by cases b<;>simp_all [beqA]
 | .sl e l c,b,h=>by
   cases b<;>simp only [beqA] at h<;>try (cases h; done)
   rw [Bool.and_eq_true,Bool.and_eq_true] at h
   rw [EI l _ h.2.1,Nat.eq_of_beq_eq_true h.1,of_decide_eq_true h.2.2]
 | .ws f e l,b,h=>by
   cases b<;>simp only [beqA] at h<;>try (cases h; done)
   rw [Bool.and_eq_true,Bool.and_eq_true] at h
   rw [EI l _ h.2.2,Nat.eq_of_beq_eq_true h.2.1,eq_of_beq h.1]
 | .bl i e o n x,b,h=>by
   cases b<;>simp only [beqA] at h<;>try (cases h; done)
   simp only [Bool.and_eq_true] at h
   obtain ⟨h1,h2,h3,h4,h5,h6⟩:=h
   rw [Nat.eq_of_beq_eq_true h1,Nat.eq_of_beq_eq_true h2,Nat.eq_of_beq_eq_true h3,Nat.eq_of_beq_eq_true h4,show x=_ from Prod.ext (Nat.eq_of_beq_eq_true h5) (eq_of_beq h6)]
 | .sd l k v,b,h=>by
   cases b<;>simp only [beqA] at h<;>try (cases h; done)
   rw [Bool.and_eq_true,Bool.and_eq_true] at h
   rw [EI l _ h.1,Nat.eq_of_beq_eq_true h.2.1,Nat.eq_of_beq_eq_true h.2.2]
 | .nm,b,h=>by cases b<;>simp_all [beqA]
 | .m x,b,h=>by
   cases b<;>simp only [beqA] at h<;>try (cases h; done)
   rw [Nat.eq_of_beq_eq_true h]
 | .nf,b,h=>by cases b<;>simp_all [beqA]
 | .fn f l,b,h=>by
   cases b<;>simp only [beqA] at h<;>try (cases h; done)
   rw [Bool.and_eq_true] at h
   rw [EI l _ h.2,Nat.eq_of_beq_eq_true h.1]
 | .yld x,b,h=>by
   cases b<;>simp only [beqA] at h<;>try (cases h; done)
   rw [Nat.eq_of_beq_eq_true h]
 | .ni,b,h=>by cases b<;>simp_all [beqA]
 | .ifc t v,b,h=>by
   cases b<;>simp only [beqA] at h<;>try (cases h; done)
   rw [Bool.and_eq_true] at h
   rw [Hs v _ h.2,Nat.eq_of_beq_eq_true h.1]
 | .agg l,b,h=>by
   cases b<;>simp only [beqA] at h<;>try (cases h; done)
   rw [EI l _ h]
 | .tup l,b,h=>by
   cases b<;>simp only [beqA] at h<;>try (cases h; done)
   rw [EI l _ h]
 | .any,b,h=>by cases b<;>simp_all [beqA]
 | .ige n,b,h=>by
   cases b<;>simp only [beqA] at h<;>try (cases h; done)
   rw [Nat.eq_of_beq_eq_true h]
 | .mth n v,b,h=>by
   cases b<;>simp only [beqA] at h<;>try (cases h; done)
   rw [Bool.and_eq_true] at h
   rw [Hs v _ h.2,JY h.1]
theorem EI:∀ (l m:List AV),Et l m=true→l=m
 | [],m,h=>by cases m<;>simp_all [Et]
 | x::l,m,h=>by
   cases m<;>simp only [Et] at h<;>try (cases h; done)
   rw [Bool.and_eq_true] at h
   rw [Hs x _ h.1,EI l _ h.2]
end
theorem QC:∀ {a b:Option Nat},beqO a b=true→a=b
 | none,none,_=>rfl
 | some a,some b,h=>by simp only [beqO] at h; rw [Nat.eq_of_beq_eq_true h]
 | none,some _,h=>by simp [beqO] at h
 | some _,none,h=>by simp [beqO] at h
theorem JO:∀ {a b:List (Option Tok)},Iy a b=true→a=b
 | [],[],_=>rfl
 | none::l,none::m,h=>by simp only [Iy] at h; rw [JO h]
 | none::_,some _::_,h=>by simp [Iy] at h
 | some _::_,none::_,h=>by simp [Iy] at h
 | some ⟨a1,a2,a3,a4⟩::l,some ⟨b1,b2,b3,b4⟩::m,h=>by
   simp only [Iy,Bool.and_eq_true] at h
   obtain ⟨⟨h1,h2,h3,h4⟩,h5⟩:=h
   rw [Nat.eq_of_beq_eq_true h1,Nat.eq_of_beq_eq_true h2,Nat.eq_of_beq_eq_true h3,QC h4,JO h5]
 | [],_::_,h=>by simp [Iy] at h
 | _::_,[],h=>by simp [Iy] at h
theorem QD:∀ {a b:St},eqSt a b=true→a=b
 | ⟨_,_,_,_,_⟩,⟨_,_,_,_,_⟩,h=>by
   simp only [eqSt,Bool.and_eq_true] at h
   obtain ⟨h1,h2,h3,h4,h5⟩:=h
   rw [Nat.eq_of_beq_eq_true h1,Nat.eq_of_beq_eq_true h2,Nat.eq_of_beq_eq_true h3,NK h4,JO h5]

variable {CR:Nat→Code→C→Prop} {P:Program} {g:G} {s s':St} {w:World}
theorem O2 {c:Array TypeId} {t e es:Nat} {ty:TypeId} (hc:c[0]? = some t) (hu:P.underlying t=some (.slice e)) (hn:A5 P e=some es) {a:Addr} {n cap m k:Nat} {yv:Value} {cs:Array Value} {w':World}
    (hl:(Builtin.lenOf yv).run P w=.ok m w) (hk:Nat.min m n=k) (hf:(Builtin.firstCells es k yv).run P w=.ok cs w) (hs:(storeCells a cs.toList).run P w=.ok () w') :
    (Builtin.copy_ c ty #[.slice (some a) n cap,yv]).run P w=.ok (goInt k) w':=by
 have e0:(#[(.slice (some a) n cap:Value),yv]:Array Value)[0]? = some (.slice (some a) n cap):=rfl
 have e1:(#[(.slice (some a) n cap:Value),yv]:Array Value)[1]? = some yv:=rfl
 simp only [Builtin.copy_,hc,e0,e1,Sem.run_bind,AA hu,Result.andThen_ok,hl,Ae hn,hk,hf,hs]
 rfl
theorem cp_ok (hI:Inv CR g s w) {c:Array TypeId} {t e es:Nat} {ty:TypeId} (hc:c[0]? = some t) (hu:P.underlying t=some (.slice e)) (hn:A5 P e=some es) {x y r:AV} {xv yv:Value}
    (hx:V g s w x xv) (hy:V g s w y yv) (h:cpA s es x y=some (r,s')):∃ v w',(Builtin.copy_ c ty #[xv,yv]).run P w=.ok v w'∧Good CR g s w s' r v w':=by
 unfold cpA at h
 split at h<;>try (cases h; done)
 rename_i id e' off n q
 split at h<;>try (cases h; done)
 rename_i hes
 obtain ⟨rfl,hes⟩:=hes
 split at h<;>try (cases h; done)
 rename_i ys hel
 split at h<;>try (cases h; done)
 rename_i hlen
 split at h<;>try (cases h; done)
 rename_i s1 hs
 cases h
 have key:∃ us m,VL g s w ys us∧(Builtin.lenOf yv).run P w=.ok m w∧Nat.min m n=ys.length∧(Builtin.firstCells e' ys.length yv).run P w=.ok (flat us).toArray w:=by
  by_cases hb:∃ id2 e2 off2 m q2,y=.bl id2 e2 off2 m q2
  · obtain ⟨id2,e2,off2,m,q2,rfl⟩:=hb
    simp only [V] at hy
    obtain ⟨o2,cap2,rfl,h1,h2,h3,h4,h5⟩:=hy
    have hy':V g s w (.bl id2 e2 off2 (min m n) q2) (.slice (some ⟨g.bx id2,o2,none⟩) (min m n) cap2):=by
     simp only [V]
     exact ⟨o2,cap2,rfl,h1,⟨h2.1,by omega⟩,h3,h4,h5⟩
    obtain ⟨us,k1,k2,k3,k4,k5⟩:=Ji (P:=P) hI hy' hel
    have hyl:ys.length=min m n:=by
     have:(Builtin.lenOf (.slice (some (⟨g.bx id2,o2,none⟩:Addr)) (min m n) cap2)).run P w=.ok (min m n) w:=by simp [Builtin.lenOf]
     rw [this] at k3
     injection k3 with k3; exact k3.symm
    refine ⟨us,m,k1,by simp [Builtin.lenOf],by rw [hyl],?_⟩
    simpa only [Builtin.firstCells] using k4
  · have htr:Rk n y=y:=by
     cases y<;>first | rfl | (exact absurd ⟨_,_,_,_,_,rfl⟩ hb)
    rw [htr] at hel
    obtain ⟨us,k1,k2,k3,k4,k5⟩:=Ji (P:=P) hI hy hel
    exact ⟨us,ys.length,k1,k3,Nat.min_eq_left hlen.1,k4⟩
 obtain ⟨us,m,k1,k2,k3,k4⟩:=key
 simp only [V] at hx
 obtain ⟨o,cap,rfl,hid,hz,_,ho,_⟩:=hx
 have hoff:o=off:=ho (by omega)
 subst hoff
 have ha:V g s w (.p id o) (.pointer (some ⟨g.bx id,o,none⟩)):=by simp only [V]; exact ⟨hid,trivial⟩
 have hv:V g s w (.agg (EU ys)) (.agg (flat us).toArray):=by simp only [V]; exact ⟨_,Hn k1,rfl⟩
 obtain ⟨w',⟨ad,h1,_,h3⟩,g1,i1,i2,_,i4⟩:=Hm (P:=P) hI ha hv hs
 simp only [Value.pointer.injEq,Option.some.injEq] at h1
 subst h1
 refine ⟨_,w',O2 hc hu hn k2 k3 k4 ?_,g1,i1,i2,by simp [V,goInt],i4⟩
 exact h3
theorem He {c:Array TypeId} {t u e es:Nat} {kn:IntKind} {i:TypeInfo} {z:Value} {ty:TypeId} (hc0:c[0]? = some t) (hc1:c[1]? = some u) (ht:P.underlying t=some (.slice e)) (hu:P.underlying u=some (.int kn))
    (hi:P.info? e=some i) (hsz:i.size=es) (hb:i.bytes≤256) (hes:1≤es) (hz:∀ w,(zeroValue e).run P w=.ok z w) (hzs:z.cells.size=es) {base:Option Addr} {sLen sCap m:Nat} {kk:IntKind}
    (hlt:sCap < sLen+m) (hm:1≤m) (hsmall:(sLen+m)*es < 2^38) {old:Array Value} (hold:∀ dr,(Builtin.firstCells es sLen (.slice base sLen sCap)).run P { w with drawn:=dr }=.ok old { w with drawn:=dr }) :
    ∃ (cap:Nat) (rest:Array Value),sLen+m≤cap∧rest.size=(cap - (sLen+m))*es ∧
     (Builtin.append_ c ty #[.slice base sLen sCap,.int kk m]).run P w=.ok (.slice (some ⟨w.heap.size,0,none⟩) (sLen+m) cap) ({ w with drawn:=w.drawn+1 }.alloc (.cells (old++Builtin.zeroCells z.cells m++rest) e)):=by
 have hsz':A5 P e=some es:=by simp [A5,hi,hsz]
 have hneed:sLen+m < 2^38:=by
  have:(sLen+m)*1≤(sLen+m)*es:=Nat.mul_le_mul_left _ hes
  omega
 have hnc:=JC (sLen+m) sCap hlt
 have hbytes:Builtin.nextslicecap (sLen+m) sCap*i.bytes≤2^48:=by
  have:=Nat.mul_le_mul hnc hb
  omega
 have hw:IntKind.i64.wrap (m:Int)=m:=by rw [IntKind.wrap_i64]; omega
 have hmb:¬ ((m:Int)*(i.bytes:Int) > 2^48):=by
  have:m*i.bytes≤2^38*256:=Nat.mul_le_mul (by omega) hb
  have h2:((m*i.bytes:Nat):Int)=(m:Int)*(i.bytes:Int):=by push_cast; rfl
  omega
 have hneg:¬ ((m:Int) < 0):=by omega
 have hns:¬ (m*es=0):=Nat.mul_ne_zero (by omega) (by omega)
 have has:(asInt (.int kk m)).run P w=.ok (m:Int) w:=by simp [asInt,asIntOf]
 simp only [Builtin.append_,hc0,hc1,Nc,Nd,Sem.run_bind,AA ht,AA hu,Result.andThen_ok,Ae hsz',Sem.run_pure,has,hw,
  if_true,if_neg hneg,BD hi,if_neg hmb,Int.toNat_natCast,Bool.not_true,Bool.false_eq_true,if_false,if_neg hns]
 rw [if_neg (by omega)]
 simp only [Sem.run_bind,BD hi,Result.andThen_ok]
 rw [if_neg (by
  intro hh
  have:IntKind.i64.max=9223372036854775807:=rfl
  rw [this] at hh; omega)]
 simp only [Sem.run_bind,Sem.run_pure,Result.andThen_ok,BD hi]
 rw [if_neg (by omega)]
 simp only [Sem.run_pure,Result.andThen_ok,Sem.run_bind,run_choose,Question.forced,Bool.false_eq_true,if_false,run_askRoom,BD hi,hold,hz]
 refine ⟨Question.cut (.appendCap (sLen+m) sCap e) (w.tape w.drawn (.appendCap (sLen+m) sCap e)),Builtin.zeroCells z.cells (Question.cut (.appendCap (sLen+m) sCap e) (w.tape w.drawn (.appendCap (sLen+m) sCap e)) - (sLen+m)),?_,?_,?_⟩
 · simp only [Question.cut]; omega
 · simp [Builtin.zeroCells,hzs]
 · simp [newRow]
theorem I1 {es:Nat} (z:Array Value) (hz:z.size=es) (n:Nat):(Builtin.zeroCells z n).toList=(List.range (n*es)).map fun j=>z.toList[j % es]! := by
 simp only [Builtin.zeroCells,Array.toList_map,Array.toList_range,hz]
 refine List.map_congr_left fun j _=>?_
 rw [List.getElem!_eq_getElem?_getD,Array.getElem!_eq_getD,Array.getD_eq_getD_getElem?,Array.getElem?_toList]
theorem L5 {z:List AV}:∀ n,(repL n z).length=n*z.length
 | 0=>by simp [repL]
 | n+1=>by simp only [repL,List.length_append,L5 n,Nat.add_mul]; omega
theorem apz_ok (hI:Inv CR g s w) {c:Array TypeId} {t u e es:Nat} {kn:IntKind} {i:TypeInfo} {z:AV} {ty:TypeId} (hc0:c[0]? = some t) (hc1:c[1]? = some u) (ht:P.underlying t=some (.slice e)) (hu:P.underlying u=some (.int kn))
    (hi:P.info? e=some i) (hsz:i.size=es) (hb:i.bytes≤256) (hes:1≤es) (hz:ES P e=some z) (hzl:z.cells.length=es) {x k r:AV} {xv kv:Value} (hx:V g s w x xv) (hk:V g s w k kv)
    (h:apzA s es e z.cells x k=some (r,s')):∃ v w',(Builtin.append_ c ty #[xv,kv]).run P w=.ok v w'∧Good CR g s w s' r v w':=by
 unfold apzA at h
 split at h<;>try (cases h; done)
 rename_i id e' off n q kk m0
 split at h<;>try (cases h; done)
 rename_i hc
 obtain ⟨rfl,hex,hm0,hroom,hsm⟩:=hc
 split at h<;>try (cases h; done)
 rename_i cs hr
 split at h<;>try (cases h; done)
 rename_i hone
 cases h
 obtain ⟨m,rfl⟩:∃ m:Nat,m0=m:=⟨m0.toNat,by omega⟩
 simp only [Int.toNat_natCast] at *
 simp only [V] at hx hk
 subst hk
 obtain ⟨o,cap,rfl,hid,hz1,hq,ho,_⟩:=hx
 have hqq:=hq.2 hex
 have hcap:cap < n+m:=by
  have:cap*e' < (n+m)*e':=by omega
  exact Nat.lt_of_mul_lt_mul_right this
 obtain ⟨us',r1,r2,r3,r4⟩:=II hI hr
 obtain ⟨zv,z1,z2⟩:=BS hz
 have hzs:zv.cells.toList.length=e':=by
  have:=(B8 (z2 g s w)).length
  omega
 have hzs':zv.cells.size=e':=by simpa using hzs
 have hVz:VL g s w (repL m z.cells) (Builtin.zeroCells zv.cells m).toList:=by
  rw [I1 _ hzs']
  exact MA (B8 (z2 g s w)) hzs hes m
 have hVall:=Bf r1 hVz
 have hlen:(cs++repL m z.cells).length=(n+m)*e':=by
  rw [List.length_append,r3,L5,hzl,Nat.add_mul]
 obtain ⟨vs,f1,f2,f3⟩:=E1 hes (n+m) hlen hone hVall
 have hcl:=EB e' (n+m) (cs++repL m z.cells) (by omega) hes
 obtain ⟨cap2,rest,j1,j2,j3⟩:=He (P:=P) (w:=w) (ty:=ty) hc0 hc1 ht hu hi hsz hb hes z1 hzs' (base:=some ⟨g.bx id,o,none⟩) (sLen:=n) (sCap:=cap) (m:=m) (kk:=kk) hcap (by omega) hsm (old:=us'.toArray) (fun dr=>by
  simp only [Builtin.firstCells]
  by_cases h0:n=0
  · subst h0
    have:us'=[]:=List.length_eq_zero_iff.1 (by omega)
    subst this
    simp [loadCells,loadCellsFrom]
  · rw [ho (by omega)]
    exact Ad r2 (CW rfl r4))
 have hdr:Le g s w g s { w with drawn:=w.drawn+1 }:=Le.heap rfl
 have hIdr:Inv CR g s { w with drawn:=w.drawn+1 }:=Inv.heap (w:=w) rfl hI
 have hsz2:cap2*e'≤(us'.toArray++Builtin.zeroCells zv.cells m++rest).size:=by
  have e1:(Builtin.zeroCells zv.cells m).size=m*e':=by simp [Builtin.zeroCells,hzs']
  simp only [Array.size_append,List.size_toArray,r2,e1,j2]
  rw [← Nat.add_mul,← Nat.add_mul]
  exact Nat.mul_le_mul_right _ (by omega)
 have hg:=CX (CR:=CR) hIdr hes f3 (Ap hdr _ _ f1) e (rest:=rest.toList) (arr:=us'.toArray++Builtin.zeroCells zv.cells m++rest) (by simp [f2]) (by omega) hsz2 (ty:=some e) (fr:=(0,0)) (fun x _=>by simp only; omega) (fun T' hT=>⟨by cases hT; rfl,rfl⟩)
 refine ⟨_,_,j3,?_⟩
 rw [hcl] at hg
 exact Good.from hdr (Esc.refl _) hg
theorem Ki {tS e size:Nat} (ht:P.underlying tS=some (.slice e)) (hz:A5 P e=some size) {ts:Array TypeId} (hts:ts[0]? = some tS) (rs:Array TypeId) {a b:Addr} {la ca lb cb:Nat} (hne:a.block≠b.block)
    {arA arB:Array Value} {TA TB:Nat} {fA fB:Nat×Nat} (hA:w.heap[a.block]? = some (.cells arA TA fA)) (hB:w.heap[b.block]? = some (.cells arB TB fB)) (hfB:fB.2=0) (hsA:0 < arA.size) :
    (Extern.SlicesOverlaps.overlaps ts rs #[.slice (some a) la ca,.slice (some b) lb cb]).run P w=.ok (.bool false) w:=by
 have hnb:(a.block != b.block)=true:=by simpa using hne
 have hnb':(a.block==b.block)=false:=by simpa using hne
 have hsa:w.shape? a.block=some (TA,arA.size):=by simp [World.shape?,hA]
 have hsb:w.shape? b.block=some (TB,arB.size):=by simp [World.shape?,hB]
 have hfb:w.frozen? b=false:=by simp [World.frozen?,hB,hfB]
 have hfb2:w.frozen? { block:=b.block,off:=arB.size }=false:=by simp [World.frozen?,hB,hfB]
 have hz':∀ w,(Go.sizeOf e).run P w=.ok size w:=fun w=>Ae hz
 obtain ⟨sA,hsA'⟩:∃ k,arA.size=k+1:=⟨arA.size - 1,by omega⟩
 change Sem.run P (α:=Value) (do
  let some t:=ts[0]? | stuck "slices.overlaps: no parameter types"
  let .slice elem ← underlying t | stuck "slices.overlaps: slice type expected"
  let size ← sizeOf elem
  match (some a:Option Addr),(some b:Option Addr) with
  | some a,some b =>
    if la=0∨lb=0∨size=0 then pure (Value.bool false)
    else if a.block != b.block&&(← frozen a)&&(← frozen b) then unsupported .addressObserved
    else do
     if a.block != b.block then do
      noView a; noView b
      if ← mayBeOne a b then return Value.bool ((← choose (.extern "sameAddr.stringBytes" 2))==1)
     pure (Value.bool (a.block==b.block&&a.off < b.off+lb*size&&b.off < a.off+la*size))
  | _,_=>pure (Value.bool false)) w=_
 by_cases h0:la=0∨lb=0∨size=0
 · simp [AA ht,hz',h0,hts]
 · rw [hsA'] at hsa
   cases hfa:w.frozen? a<;>cases hfe:w.frozen? { block:=a.block,off:=sA+1 } <;>
    simp [AA ht,hz',h0,hts,hnb,hnb',frozen,noView,viewAt,mayBeOne,stringish,shape,Sem.run,hsa,hsb,hfa,hfe,hfb,hfb2]
theorem ovl_ok (hI:Inv CR g s w) {tS e es:Nat} (ht:P.underlying tS=some (.slice e)) (hz:A5 P e=some es) (hes:1≤es) {ts:Array TypeId} (hts:ts[0]? = some tS) (rs:Array TypeId) {x y:AV} {xv yv:Value}
    (hx:V g s w x xv) (hy:V g s w y yv) (h:ovlA s es x y=true):(Extern.SlicesOverlaps.overlaps ts rs #[xv,yv]).run P w=.ok (.bool false) w:=by
 unfold ovlA at h
 split at h<;>try (cases h; done)
 rename_i id e2 off n q
 split at h<;>try (cases h; done)
 rename_i T l rm hb
 simp only [V] at hy
 obtain ⟨o,cap,rfl,hid,hz1,_⟩:=hy
 obtain ⟨arr,fr,r1,hfr,_⟩:=hI.box id _ hb
 have hpr:=hI.pr id _ hb rfl
 have hlt:=hI.lt id hid
 have key:∀ {e':Nat} {v:AV} {vs:List AV} {m:Cap},m=.full∨m=.shut→Nat.beq e' es=true→V g s w (.sl e' (v::vs) m) xv→(Extern.SlicesOverlaps.overlaps ts rs #[xv,.slice (some ⟨g.bx id,o,none⟩) n cap]).run P w=.ok (.bool false) w:=by
  intro e' v vs m hm he hx
  obtain rfl:=Nat.eq_of_beq_eq_true he
  simp only [V] at hx
  obtain ⟨b',o',cap',us,rfl,k1,k2,_,k3⟩:=hx
  obtain ⟨k4,k5,k6,_⟩:=k3 (by rcases hm with rfl | rfl<;>rfl)
  have hfl:=Ah k4 k2
  have hsafe:safe g b' (o'+(v::vs).length*e'):=by rcases hm with rfl | rfl<;>exact k6
  have hpos:1≤(v::vs).length*e':=Nat.mul_pos (by simp) (by omega)
  have hne:b'≠g.bx id:=by
   rintro rfl
   rcases hsafe with hs | hs
   · omega
   · omega
  obtain ⟨u,hu⟩:∃ u,(flat us)[0]? = some u:=⟨_,List.getElem?_eq_getElem (by omega)⟩
  have hc:=k5 0 u hu
  simp only [World.cell?,Nat.add_zero] at hc
  cases hh:w.heap[b']? with
  | none=>simp [hh] at hc
  | some ob =>
    cases ob<;>simp [hh] at hc
    rename_i arA TA fA
    refine Ki ht hz hts rs (a:=⟨b',o',none⟩) (b:=⟨g.bx id,o,none⟩) hne hh r1 (hfr rfl) ?_
    have:=(Array.getElem?_eq_some_iff.1 hc).1
    omega
 split at h<;>try (cases h; done)
 · exact key (.inl rfl) h hx
 · exact key (.inr rfl) h hx
 · rename_i f e' v vs
   rcases V_ws.1 hx with ⟨_,hx2⟩ | ⟨_,hx2⟩ | hx2
   · cases hx2
   · cases hx2
   · exact key (by cases f<;>simp [capM]) h hx2
end Go.Proofs.Ytfpoihibfajhlaa.Am

namespace Go.Proofs.Ytfpoihibfajhlaa.Am
variable {CR:Nat→Code→C→Prop} {P:Program} {g:G} {s s':St} {w:World}
theorem N8 (hI:Inv CR g s w) {L:Loc} {n T:Nat} {id:Nat} (hid:id < s.nb) (hL:g.bx id=L.blk) (hprot:g.prot L.blk=0) (hes:1≤L.es) (hcap:n≤L.cap)
    (hnb:∀ i B,s.box? i=some B→B.live=true→g.bx i≠L.blk) (hnt:∀ j u,s.tok? j=some u→(g.tk j).blk≠L.blk) {arr:Array Value} {fr:Nat×Nat}
    (hh:w.heap[L.blk]? = some (.cells arr T fr)) (hsz:L.cap*L.es≤arr.size) (hfr:fr.2=0) :
    ∃ g',Inv CR g' (s.newTok n (some T)) w∧Le g s w g' (s.newTok n (some T)) w∧g'.tk s.nt=L∧Esc s (s.newTok n (some T)):=by
 let g':G:={ g with tk:=fun k=>if k=s.nt then L else g.tk k }
 have htk:∀ k,k < s.nt→g'.tk k=g.tk k:=fun k hk=>by simp only [g']; rw [if_neg (by omega)]
 have htkn:g'.tk s.nt=L:=by simp only [g',if_pos]
 have htoks:∀ j u,(s.newTok n (some T)).tok? j=some u→(j=s.nt∧u=⟨n,0,0,some T⟩)∨(j≠s.nt∧s.tok? j=some u):=fun j u hj=>by
  rw [newTok_tok?] at hj
  by_cases h:j=s.nt
  · rw [if_pos h] at hj; cases hj; exact .inl ⟨h,rfl⟩
  · rw [if_neg h] at hj; exact .inr ⟨h,hj⟩
 have hLe:Le g s w g' (s.newTok n (some T)) w:={
  io:=⟨rfl,rfl⟩
  own:=fun b hb ho=>by
   rcases ho with ⟨i,hi,he⟩ | ⟨j,hj,he⟩
   · exact .inl ⟨i,hi,he⟩
   · by_cases h:j=s.nt
     · subst h; rw [htkn] at he; exact .inl ⟨id,hid,hL.trans he⟩
     · have hj':j < s.nt:=by simp [St.newTok] at hj; omega
       exact .inr ⟨j,hj',by rw [← htk j hj']; exact he⟩
  frame:=fun _ _ _=>⟨rfl,rfl⟩
  base:=rfl
  size:=Nat.le_refl _
  low:=fun _ _=>rfl
  prot:=fun _=>Nat.le_refl _
  cell:=fun _ _ _ _ hc=>hc
  dfr:=fun _ hb=>hb
  arr:=fun _=>.same rfl
  nb:=Nat.le_refl _
  bx:=fun _ _=>rfl
  nt:=by simp [St.newTok]
  has:=fun j u t' hkj hj=>by
   rcases htoks j t' hj with ⟨rfl,_⟩ | ⟨_,hj⟩
   · exact absurd hkj.1 (by omega)
   · exact hkj.2 t' hj
  ok:=fun j u hkj hj=>by
   rw [EL] at hj ⊢
   obtain ⟨t',hj,hu⟩:=hj
   rcases htoks j t' hj with ⟨rfl,_⟩ | ⟨_,hj⟩
   · exact absurd hkj.1 (by omega)
   · exact ⟨t',hj,hu⟩
  tok:=fun j t t' hjn hj hj' _=>by
   rcases htoks j t' hj' with ⟨rfl,_⟩ | ⟨_,hj'⟩
   · exact absurd hjn (by omega)
   · rw [hj] at hj'; cases hj'
     exact ⟨fun _ _ _ hc=>hc,.inl ⟨htk j hjn,Nat.le_refl _⟩⟩ }
 have hb:=hI.lt id hid
 rw [hL] at hb
 refine ⟨g',?_,hLe,htkn,Esc.same rfl fun _ _=>rfl⟩
 exact {
  lenB:=hI.lenB
  lenT:=by simp [St.newTok,hI.lenT]
  base:=hI.base
  fresh:=hI.fresh
  lt:=hI.lt
  pr:=hI.pr
  box:=fun i B hB=>(hI.box i B hB).mono hLe rfl
  inj:=hI.inj
  tlt:=fun j u hj=>by
   rcases htoks j u hj with ⟨rfl,_⟩ | ⟨_,hj⟩
   · rw [htkn]; exact hb.2
   · rw [htk j (tok?_lt hj)]; exact hI.tlt j u hj
  tall:=fun j hj=>by
   by_cases h:j=s.nt
   · subst h; rw [htkn]; exact hb.2
   · have hj':j < s.nt:=by simp [St.newTok] at hj; omega
     rw [htk j hj']; exact hI.tall j hj'
  tok:=fun j u hj=>by
   rcases htoks j u hj with ⟨rfl,rfl⟩ | ⟨_,hj⟩
   · rw [htkn]
     exact { base:=hb.1,es:=hes,prot:=by simp [g',hprot],pub:=Nat.zero_le _,cap:=hcap,row:=⟨arr,T,fr,hh,hsz,fun x _=>by omega,fun T' hT=>⟨by cases hT; rfl,by simp [hfr]⟩⟩ }
   · rw [htk j (tok?_lt hj)]; exact { hI.tok j u hj with }
  tinj:=fun i j u v hi hj he=>by
   rcases htoks i u hi with ⟨rfl,_⟩ | ⟨_,hi⟩<;>rcases htoks j v hj with ⟨rfl,_⟩ | ⟨_,hj⟩
   · rfl
   · rw [htkn,htk j (tok?_lt hj)] at he; exact absurd he.symm (hnt j v hj)
   · rw [htkn,htk i (tok?_lt hi)] at he; exact absurd he (hnt i u hi)
   · rw [htk i (tok?_lt hi),htk j (tok?_lt hj)] at he; exact hI.tinj i j u v hi hj he
  btk:=fun i B j u hB lb hj=>by
   rcases htoks j u hj with ⟨rfl,_⟩ | ⟨_,hj⟩
   · rw [htkn]; exact hnb i B hB lb
   · rw [htk j (tok?_lt hj)]; exact hI.btk i B j u hB lb hj }
theorem PW (hI:Inv CR g s w) {es T:Nat} {x r:AV} {v:Value} (hx:V g s w x v) (h:QO s es T x=some (r,s')):Good CR g s w s' r v w:=by
 unfold QO at h
 split at h
 case h_2=>cases h
 rename_i id e off n q
 split at h
 case isFalse=>cases h
 rename_i hc
 obtain ⟨rfl,rfl,hq,hes⟩:=hc
 split at h
 case h_2=>cases h
 rename_i T' l rm hb
 split at h
 case isFalse=>cases h
 rename_i hc
 obtain ⟨rfl,hlen,hone⟩:=hc
 cases h
 simp only [V] at hx
 obtain ⟨o,cap,rfl,hid,hz,_,_,ho,h6⟩:=hx
 obtain rfl:o=0:=by omega
 obtain ⟨arr,T2,fr2,k1,k2⟩:=h6 hq
 obtain ⟨arr',fr,e1,e2,vs,rest,e3,e4,e5⟩:=hI.box id _ hb
 rw [k1] at e1
 cases e1
 have hfr:=e2 rfl
 have hnd:w.heap[g.bx id]? ≠ some (.deferred (some [])):=by rw [k1]; simp
 have hL1:=Le.setBox (B:=.used) (w':=w) hI hb rfl rfl (fun _ _=>rfl) hnd (.same rfl)
 have hI1:=Inv.setBox (B:=.used) (w':=w) hI hb rfl rfl (fun _ _=>rfl) hnd (.same rfl) trivial
 have hE1:Esc s (s.setBox id .used):=IQ hI hid (fun b hv=>hv.elim)
 have hbox:∀ i B,(s.setBox id .used).box? i=some B→B.live=true→i≠id∧s.box? i=some B:=fun i B hB hl=>by
  rw [setBox_box? hI.lenB hid] at hB
  by_cases h:i=id
  · rw [if_pos h] at hB; cases hB; cases hl
  · rw [if_neg h] at hB; exact ⟨h,hB⟩
 have hsz:cap*e≤arr.size:=by
  by_cases h0:cap=0
  · subst h0; simp
  · have:=k2 (by omega); omega
 obtain ⟨g',i1,i2,i3,i4⟩:=N8 hI1 (L:=⟨g.bx id,e,cap⟩) (n:=n) (T:=T') (id:=id) hid rfl (hI.pr id _ hb rfl) hes hz.2
  (fun i B hB lb he=>(hbox i B hB lb).1 (hI.inj i id B _ (hbox i B hB lb).2 hb lb rfl he)) (fun j u hj he=>hI.btk id _ j u hb rfl hj he.symm) k1 hsz hfr
 obtain ⟨us,f1,f2,f3⟩:=E1 (g:=g) (s:=s) (w:=w) hes n (l:=l.take (n*e)) (us:=vs.take (n*e)) (by simp; omega) hone (E0 _ e4)
 have hcl:=EB e n (l.take (n*e)) (by simp; omega) hes
 have hvl:=VL.length e4
 refine ⟨g',i1,hL1.trans i2,?_,Esc.trans (by simp [St.setBox]) hE1 i4⟩
 simp only [V]
 refine ⟨g.bx id,0,cap,us,by rw [hcl],⟨hes,by omega⟩,f3,⟨by simp [St.newTok,St.setBox],fun t ht=>?_⟩,fun _=>⟨Ap (hL1.trans i2) _ _ f1,fun j v hj=>?_,?_,rfl,?_,by omega,fun t ht=>?_⟩⟩
 · exact Nat.zero_le _
 · rw [f2] at hj
   simp only [World.cell?,k1]
   rw [List.getElem?_take] at hj
   split at hj<;>try (cases hj; done)
   rename_i hlt
   have:arr[j]? = some v:=by
    rw [← Array.getElem?_toList,e3,List.getElem?_append_left (by omega)]; exact hj
   simpa using this
 · right
   refine ⟨⟨n,0,0,some T'⟩,by rw [newTok_tok?]; exact if_pos rfl,?_,?_⟩
   · rw [show (s.setBox id .used).nt=s.nt from rfl] at i3; rw [i3]
   · rw [show (s.setBox id .used).nt=s.nt from rfl] at i3; rw [i3,hcl]; simp
 · rw [show (s.setBox id .used).nt=s.nt from rfl] at i3; rw [i3]
 · rw [newTok_tok?,show (s.setBox id .used).nt=s.nt from rfl,if_pos rfl] at ht
   cases ht
   rw [show (s.setBox id .used).nt=s.nt from rfl] at i3
   exact ⟨by rw [hcl]; exact Nat.le_refl _,fun _=>i3⟩
theorem orU_ok {es e:Nat} {x y r:AV} {xv yv:Value} {c:Array TypeId} {ty:TypeId} (hI:Inv CR g s w) (hT:AppT P c es e) (hx:V g s w x xv) (hy:V g s w y yv) (h:orU (appA s es e x y) s es e x y=some (r,s')) :
    ∃ v w',(Builtin.append_ c ty #[xv,yv]).run P w=.ok v w'∧Good CR g s w s' r v w':=by
 unfold orU at h
 split at h
 · cases h
   rename_i h
   exact Pv hI hT hx hy h
 · unfold LO at h
   split at h
   case h_2=>cases h
   rename_i x' s1 hu
   obtain ⟨g1,i1,i2,i3,i4⟩:=PW hI hx hu
   obtain ⟨v,w',j1,j2⟩:=Pv i1 hT i3 (CY i2 _ _ hy) h
   exact ⟨v,w',j1,Good.from i2 i4 j2⟩
end Go.Proofs.Ytfpoihibfajhlaa.Am

namespace Go.Proofs.Ytfpoihibfajhlaa.Am
section
variable {rd:Option Nat} {P:Program} {gt:Nat→Option (List AV)} {prog:Nat→Option Fun} {self:Self} {g:G} {s s':St} {w:World} {e:Tr} {a:Act} {o:Oper} {r:AV}
theorem Bu {b:Builtin} {c:Go.Call} (ho:o.op=.call c) (hb:c.callee=.builtin b) :
    (execOp a.eval o).run P w=(builtin b c.argTypes o.type (c.args.map fun | .const _=>true | _=>false) (c.args.map a.eval)).run P w:=by
 simp only [execOp,ho,Sem.run_bind,resolve,hb,Sem.run_pure,Result.andThen_ok,invoke]
 rfl
theorem arr1 {x:Array Operand} {y:Operand} (h:x.toList=[y]):x.map a.eval=#[a.eval y]:=by
 apply Array.toList_inj.1; simp [h]
theorem arr2 {x:Array Operand} {y z:Operand} (h:x.toList=[y,z]):x.map a.eval=#[a.eval y,a.eval z]:=by
 apply Array.toList_inj.1; simp [h]
theorem F5 {l:List Operand} {x:X} (h:cvXs gt l=some [x]):∃ y,l=[y]∧cvX gt y=some x:=by
 match l with
 | []=>simp [cvXs] at h
 | y :: l =>
   simp only [cvXs] at h
   split at h<;>try (cases h; done)
   rename_i a' r' h1 h2
   cases h
   match l,h2 with
   | [],_=>exact ⟨y,rfl,h1⟩
   | z::l,h2 =>
     simp only [cvXs] at h2
     split at h2<;>cases h2
theorem F6 {l:List Operand} {x x':X} (h:cvXs gt l=some [x,x']):∃ y y',l=[y,y']∧cvX gt y=some x∧cvX gt y'=some x':=by
 match l with
 | []=>simp [cvXs] at h
 | y::l =>
   simp only [cvXs] at h
   split at h<;>try (cases h; done)
   rename_i a' r' h1 h2
   cases h
   obtain ⟨y',rfl,h3⟩:=F5 h2
   exact ⟨y,y',rfl,h1,h3⟩
theorem QH {c:Array TypeId} {t u el:Nat} {d:TypeDesc} {xa xb:X} {es T:Nat} {x' y':X} (h0:c[0]? = some t) (h1:c[1]? = some u) (ht:P.underlying t=some (.slice el)) (hu:P.underlying u=some d) (hd:∀ k,d≠.int k)
    (h:J7 P el xa xb=some (.app es T x' y')):AppT P c es T∧x'=xa∧y'=xb:=by
 unfold J7 at h
 split at h<;>try (cases h; done)
 rename_i i z hi hz
 split at h<;>try (cases h; done)
 rename_i hc
 cases h
 obtain ⟨v,hv1,hv2⟩:=BS (P:=P) hz
 refine ⟨⟨t,u,d,i,v,h0,h1,ht,hu,hd,hi,rfl,hc.2.1,hc.1,hv1,?_⟩,rfl,rfl⟩
 have:=Gp (hv2 ⟨0,fun _=>0,fun _=>default,fun _=>0⟩ default default)
 omega
theorem QI (hS:SelfOk P gt self) (hN:Bq P) (hX:Ctx P gt prog) (hI:Inv (CRof P gt) g s w) (hG:GT gt g w) (hT:VT g s w e a.tmps) {pop:Bool} {aop:AOp} {c:Go.Call} (ho:o.op=.call c)
    (hc:Ep P gt pop o=some aop) (h:evOp self e s aop=some (r,s')):Does rd P o a w (Good (CRof P gt) g s w s' r):=by
 have hnd:∀ c,o.op≠.defer c:=by simp [ho]
 unfold Ep at hc
 simp only [ho] at hc
 split at hc<;>try (cases hc; done)
 rename_i args hargs
 have hvs:=Ja hG hT hargs
 have hmap:(c.args.toList.map a.eval).toArray=c.args.map a.eval:=by apply Array.toList_inj.1; simp
 unfold JU at hc
 split at hc
 · -- a function by its name
   rename_i f hcal
   split at hc<;>try (cases hc; done)
   rename_i F hF
   have hrun:(execOp a.eval o).run P w=(callFunc f (c.args.map a.eval)).run P w:=by
    simp [execOp,ho,resolve,hcal,Act.eval,Deferred.ofValue,invoke]
   split at hc
   · rename_i b hb
     split at hc
     · cases hc
       simp only [evOp] at h
       refine Ef hnd (w':=w) (f:=f) (args:=c.args.map a.eval) (by rw [hrun]; exact Cp hN hF hb _) ?_
       have:=hS.call _ _ _ _ _ h g w _ hI hG hvs
       rw [hmap] at this
       exact this.mono fun ex w' ⟨v,hv,hg⟩=>⟨v,hv,hg⟩
     cases hc
     simp only [evOp] at h
     split at h<;>try (cases h; done)
     rename_i vs s1 hp
     obtain ⟨g1,hI1,hL1,hV1,hE1⟩:=EQ hI hvs hp
     refine Ef hnd (w':=w) (f:=f) (args:=c.args.map a.eval) (by rw [hrun]; exact Cp hN hF hb _) ?_
     have:=hS.call _ _ _ _ _ h g1 w _ hI1 (hG.mono hL1) hV1
     rw [hmap] at this
     exact this.mono fun ex w' ⟨v,hv,hg⟩=>⟨v,hv,Good.from hL1 hE1 hg⟩
   · rename_i hb
     split at hc
     case h_2 hrow =>
      split at hc
      case isFalse =>
       split at hc<;>try (cases hc; done)
       rename_i hov
       unfold QM at hc
       split at hc<;>try (cases hc; done)
       rename_i x x' t t' hts
       split at hc<;>try (cases hc; done)
       rename_i el hut
       split at hc<;>try (cases hc; done)
       rename_i es hsz
       split at hc<;>try (cases hc; done)
       rename_i hes
       cases hc
       obtain ⟨y,y',hy1,hy2,hy3⟩:=F6 hargs
       have hv:=AM hG hT hy2
       have hv':=AM hG hT hy3
       simp only [evOp] at h
       split at h<;>try (cases h; done)
       rename_i hq
       cases h
       have hpt:F.params[0]? = some t:=by
        have:F.params=#[t,t']:=by apply Array.toList_inj.1; simpa using hts
        rw [this]; rfl
       have e1:=ovl_ok (P:=P) hI hut hsz hes hpt F.resultTypes hv hv' hq
       exact AG hnd (w':=w) (by rw [hrun,arr2 hy1]; exact QG hN hX hF hb hov e1) (AH hI (by simp [V]))
      rename_i hname
      split at hc<;>try (cases hc; done)
      rename_i x t hts
      split at hc<;>try (cases hc; done)
      rename_i el hut
      split at hc<;>try (cases hc; done)
      rename_i hue hsz
      cases hc
      obtain ⟨y,hy1,hy2⟩:=F5 hargs
      have hv:=AM hG hT hy2
      simp only [evOp] at h
      split at h<;>try (cases h; done)
      rename_i n heq
      split at h<;>try (cases h; done)
      rename_i hn
      cases h
      rw [heq] at hv; simp only [V] at hv
      have hrt:F.resultTypes=#[t]:=by apply Array.toList_inj.1; simpa using hts
      obtain ⟨v,w',e1,e2⟩:=mnz_ok (P:=P) hI hut F.params hn.1 hn.2
      rw [← hrt,← hv] at e1
      exact AG hnd (w':=w') (by rw [hrun,arr1 hy1]; exact QF hN hX hF hb hname e1) e2
     rename_i row hrow
     cases hc
     simp only [evOp] at h
     obtain ⟨ex,hex,hx⟩:=QE (w:=w) hN hX hF hb hrow
     unfold extA at h
     split at h<;>try (cases h; done)
     · rename_i l k c' hev
       rw [hev] at hvs
       simp only [My] at hex
       simp only [VL,V] at hvs
       obtain ⟨v1,r1,e1,⟨rfl,hlt⟩,v2,r2,rfl,rfl,rfl⟩:=hvs
       split at h<;>try (cases h; done)
       rename_i hk
       cases h
       obtain ⟨rfl,hk0,hk1⟩:=hk
       have hc':c'=Int.ofNat c'.toNat:=(Int.toNat_of_nonneg hk0).symm
       have:=hx #[.string (AL l),.int .u8 c'] _ w (by rw [hc']; exact hex l c'.toNat w hlt (by omega))
       refine AG hnd (w':=w) (by rw [hrun,← hmap,e1]; exact this) (AH hI (by simp [V]))
     · rename_i v hev
       rw [hev] at hvs
       simp only [My] at hex
       simp only [VL] at hvs
       obtain ⟨v1,r1,e1,hv1,rfl⟩:=hvs
       cases h
       exact AG hnd (w':=w) (by rw [hrun,← hmap,e1]; exact hx #[v1] _ w (hex v1 w)) (AH hI hv1)
 · -- a function value
   rename_i v hnf hcal
   split at hc<;>try (cases hc; done)
   rename_i x hx
   cases hc
   simp only [evOp] at h
   split at h<;>try (cases h; done)
   rename_i vs s1 hp
   obtain ⟨g1,hI1,hL1,hV1,hE1⟩:=EQ hI hvs hp
   have hv:=CY hL1 _ _ (AM hG hT hx)
   cases hxe:x.ev e<;>rw [hxe] at h hv<;>try (simp only [G8] at h; cases h; done)
   · rename_i f caps
     simp only [G8] at h
     simp only [V] at hv
     obtain ⟨us,hu1,hu2⟩:=hv
     obtain ⟨F,b,hF,hb⟩:=hS.body _ _ _ _ _ h
     refine Ef hnd (w':=w) (f:=f) (args:=(c.args.map a.eval)++us.toArray) ?_ ?_
     · have:=Cp (w:=w) hN hF hb ((c.args.map a.eval)++us.toArray)
       simp [execOp,ho,resolve,hcal,hu2,Deferred.ofValue,invoke,this]
     · have:=hS.call _ _ _ _ _ h g1 w _ hI1 (hG.mono hL1) (Bf hV1 hu1)
       have e1:(List.map a.eval c.args.toList++us).toArray=c.args.map a.eval++us.toArray:=by apply Array.toList_inj.1; simp
       rw [e1] at this
       exact this.mono fun ex w' ⟨v,hv,hg⟩=>⟨v,hv,Good.from hL1 hE1 hg⟩
   · rename_i l
     simp only [V] at hv
     obtain ⟨hl1,hl2⟩:=hv
     obtain ⟨f,tmps,cx,cy,e1,e2⟩:=OY (rd:=rd) hS hI1 (hG.mono hL1) hV1 h
     rw [hmap] at e1
     refine Mx hnd (w':=w) (l:=g1.bx l) (f:=f) (tmps:=tmps) (x:=cx) (y:=cy) ?_ ?_
     · simp [execOp,ho,resolve,hcal,hl2,Deferred.ofValue,invoke,e1]
     · exact e2.mono fun ex w' ⟨v,hv,hg⟩=>⟨v,hv,Good.from hL1 hE1 hg⟩
 · -- a method
   rename_i rcv name hcal
   split at hc<;>try (cases hc; done)
   rename_i x hx
   cases hc
   simp only [evOp] at h
   split at h<;>try (cases h; done)
   rename_i t v vs s1 heq hp
   split at h<;>try (cases h; done)
   rename_i f hf
   obtain ⟨g1,hI1,hL1,hV1,hE1⟩:=EQ hI hvs hp
   have hv:=CY hL1 _ _ (AM hG hT hx)
   rw [heq] at hv
   simp only [V] at hv
   obtain ⟨u,hu,hru⟩:=hv
   obtain ⟨F,b,hF,hb⟩:=hS.body _ _ _ _ _ h
   have hinv:Mk P name t=some f:=by
    unfold J8 at hf
    have : ∀ {l:List (Nat×Nat)},l.lookup t=some f→(t,f)∈l:=by
     intro l
     induction l with
     | nil=>intro h; simp at h
     | cons q l ih =>
       obtain ⟨a,c⟩:=q
       intro h
       rw [List.lookup_cons] at h
       split at h
       · rename_i he
         have:t=a:=by simpa using he
         subst this
         cases h; simp
       · exact List.mem_cons_of_mem _ (ih h)
    have:=this hf
    rw [List.mem_filterMap] at this
    obtain ⟨t',_,ht'⟩:=this
    rw [Option.map_eq_some_iff] at ht'
    obtain ⟨f',h1,h2⟩:=ht'
    cases h2
    exact h1
   have hm:∀ n,(method (n+1) t u name).run P w=.ok (f,u) w:=by
    intro n
    unfold Mk at hinv
    split at hinv<;>try (cases hinv; done)
    rename_i i d hi hd
    split at hinv<;>try (cases hinv; done)
    rename_i m hm
    split at hinv<;>try (cases hinv; done)
    rename_i f' pr hpath hfunc
    have hfo:(follow m.path.toList t (.val u)).run P w=.ok (t,.val u) w:=by rw [hpath]; rfl
    have hrec:∀ wr,(receiverAt t (.val u) pr wr).run P w=.ok u w∧f'=f:=by
     intro wr
     split at hinv<;>try (cases hinv; done)
     · cases hinv
       refine ⟨?_,rfl⟩
       simp only [receiverAt,Sem.run_bind,AA hd,Result.andThen_ok]
       rfl
     · cases hinv
       refine ⟨?_,rfl⟩
       rename_i hnp _
       simp only [receiverAt,Sem.run_bind,AA hd,Result.andThen_ok]
       cases d<;>first | rfl | (rename_i q; exact (hnp q rfl).elim) | skip
    simp only [method,Sem.run_bind,BD hi,Result.andThen_ok,hm,hfo,hfunc]
    obtain ⟨_,rfl⟩:=hrec none
    simp [(hrec _).1]
   have hr1:a.eval rcv=.iface t u:=hru
   have hmax:∃ n,P.types.size+Made.depth=n+1:=by
    refine ⟨P.types.size+(Made.depth - 1),?_⟩
    have:Made.depth=(Made.depth - 1)+1:=by decide
    omega
   obtain ⟨n,hn⟩:=hmax
   have hrun:(execOp a.eval o).run P w=(callFunc f (#[u]++c.args.map a.eval)).run P w:=by
    have e0:∀ l:Array Value,(#[Value.iface t u]++l)[0]? = some (Value.iface t u):=fun l=>by rw [Array.getElem?_append_left (by simp)]; rfl
    have e2:(Array.map a.eval c.args).extract 0 c.args.size=Array.map a.eval c.args:=by
     rw [show c.args.size=(Array.map a.eval c.args).size by simp]; exact Array.extract_size
    simp [execOp,ho,resolve,hcal,hr1,Go.invoke,callMethod,e0,e2,hn,hm n]
   refine Ef hnd (w':=w) (f:=f) (args:=#[u]++c.args.map a.eval) (by rw [hrun]; exact Cp hN hF hb _) ?_
   have:=hS.call _ _ _ _ _ h g1 w (u::(c.args.toList.map a.eval)) hI1 (hG.mono hL1) (by simp only [VL]; exact ⟨u,_,rfl,hu,hV1⟩)
   have e1:(u::List.map a.eval c.args.toList).toArray=#[u]++c.args.map a.eval:=by apply Array.toList_inj.1; simp
   rw [e1] at this
   exact this.mono fun ex w' ⟨v,hv,hg⟩=>⟨v,hv,Good.from hL1 hE1 hg⟩
 · -- len
   rename_i hcal
   split at hc<;>try (cases hc; done)
   rename_i x t ht
   obtain ⟨y,hy1,hy2⟩:=F5 hargs
   have hv:=AM hG hT hy2
   have hrun:=Bu (P:=P) (a:=a) (w:=w) ho hcal
   rw [arr1 hy1] at hrun
   have fin:∀ k,((k=0∧P.underlying t=some .string)∨(k=1∧∃ e,P.underlying t=some (.slice e))∨(k=2∧∃ q e,P.underlying t=some (.map q e)))→evOp self e s (.len k x)=some (r,s')→Does rd P o a w (Good (CRof P gt) g s w s' r):=by
    intro k hk h
    simp only [evOp] at h
    obtain ⟨hq,rfl⟩:=DZ h
    obtain ⟨v,e1,e2⟩:=len_ok (P:=P) (ty:=o.type) hI ht hk hv hq
    exact AG hnd (w':=w) (by rw [hrun]; simp only [builtin]; exact Aj e1) (AH hI e2)
   split at hc<;>cases hc
   · rename_i hu; exact fin 0 (.inl ⟨rfl,hu⟩) h
   · rename_i el hu; exact fin 1 (.inr (.inl ⟨rfl,el,hu⟩)) h
   · rename_i q el hu; exact fin 2 (.inr (.inr ⟨rfl,q,el,hu⟩)) h
 · -- cap
   rename_i hcal
   split at hc<;>try (cases hc; done)
   rename_i x t ht
   split at hc<;>try (cases hc; done)
   rename_i el hu
   cases hc
   obtain ⟨y,hy1,hy2⟩:=F5 hargs
   have hv:=AM hG hT hy2
   have hrun:=Bu (P:=P) (a:=a) (w:=w) ho hcal
   rw [arr1 hy1] at hrun
   simp only [evOp] at h
   have fin2:∀ (n:Nat) (r:AV),V g s w r (goInt n)→(∃ b l,a.eval y=.slice b l n)→Does rd P o a w (Good (CRof P gt) g s w s r):=by
    rintro n r hr ⟨b,l,hb⟩
    have a0:(#[.slice b l n]:Array Value)[0]? = some (.slice b l n):=rfl
    refine AG hnd (w':=w) (v:=goInt n) ?_ (AH hI hr)
    rw [hrun,hb]; simp only [builtin]
    refine Aj ?_
    simp only [Builtin.cap_,ht,a0,Sem.run_bind,AA hu,Result.andThen_ok]
    rfl
   have fin:∀ n:Nat,(∃ b l,a.eval y=.slice b l n)→Does rd P o a w (Good (CRof P gt) g s w s (.i .i64 (Int.ofNat n))):=fun n=>fin2 n _ (by simp [V,goInt])
   split at h<;>try (cases h; done)
   · rename_i heq
     cases h
     rw [heq] at hv; simp only [V] at hv
     exact fin 0 ⟨_,_,hv⟩
   · rename_i heq
     cases h
     rw [heq] at hv; simp only [V] at hv
     obtain ⟨ba,hv⟩:=hv
     exact fin 0 ⟨_,_,hv⟩
   · rename_i es l heq
     cases h
     rw [heq] at hv; simp only [V] at hv
     obtain ⟨b,o',cap,vs,hb,_,_,_,h5⟩:=hv
     have:=(h5 rfl).2.2.2
     simp only [Fv] at this
     subst this
     exact fin _ ⟨_,_,hb⟩
   · rename_i id es off n x0 heq
     split at h<;>try (cases h; done)
     rename_i hc0
     cases h
     rw [heq] at hv; simp only [V] at hv
     obtain ⟨o',cap,hb,_,_,hx1,_⟩:=hv
     have hq:(x0 - off) / es=cap:=by
      have:=hx1.2 trivial
      rw [show x0 - off=cap*es by omega]
      exact Nat.mul_div_cancel _ hc0.1
     rw [hq]
     exact fin _ ⟨_,_,hb⟩
   · rename_i id es off n x0 heq
     split at h<;>try (cases h; done)
     rename_i hes
     cases h
     rw [heq] at hv; simp only [V] at hv
     obtain ⟨o',cap,hb,_,hz,hx1,_⟩:=hv
     refine fin2 cap _ ?_ ⟨_,_,hb⟩
     simp only [V]
     refine ⟨cap,rfl,?_⟩
     have:LM es off n (x0,false)≤cap:=by
      unfold LM
      refine Nat.max_le.2 ⟨hz.2,?_⟩
      refine Nat.le_of_mul_le_mul_right (c:=es) ?_ (by omega)
      have:=Nat.div_mul_le_self (x0 - off) es
      simp only
      omega
     exact Int.ofNat_le.2 this
 · -- clear
   rename_i hcal
   split at hc<;>try (cases hc; done)
   rename_i x t ht
   split at hc<;>try (cases hc; done)
   rename_i el hu
   split at hc<;>try (cases hc; done)
   rename_i es z hsz hz
   split at hc<;>try (cases hc; done)
   rename_i he
   cases hc
   obtain ⟨y,hy1,hy2⟩:=F5 hargs
   have hv:=AM hG hT hy2
   have hrun:=Bu (P:=P) (a:=a) (w:=w) ho hcal
   rw [arr1 hy1] at hrun
   obtain ⟨v,w',q1,q2⟩:=clr_ok (P:=P) (ty:=o.type) hI ht hu hz he hv rfl h
   exact AG hnd (by rw [hrun]; simp only [builtin]; exact Aj q1) q2
 · -- max
   rename_i hcal
   split at hc<;>try (cases hc; done)
   rename_i x x'
   cases hc
   obtain ⟨y,y',hy1,hy2,hy3⟩:=F6 hargs
   have hv:=AM hG hT hy2
   have hv':=AM hG hT hy3
   have hrun:=Bu (P:=P) (a:=a) (w:=w) ho hcal
   rw [arr2 hy1] at hrun
   simp only [evOp] at h
   split at h<;>try (cases h; done)
   rename_i k n k' m h1 h2
   cases h
   rw [h1] at hv; rw [h2] at hv'
   have:=mm_ok (P:=P) (mx:=true) (c:=c.argTypes) (ty:=o.type) hv hv'
   simp only [if_true] at this
   exact AG hnd (w':=w) (by rw [hrun]; simp only [builtin]; exact Aj this) (AH hI (by simp [V]))
 · -- min
   rename_i hcal
   split at hc<;>try (cases hc; done)
   rename_i x x'
   cases hc
   obtain ⟨y,y',hy1,hy2,hy3⟩:=F6 hargs
   have hv:=AM hG hT hy2
   have hv':=AM hG hT hy3
   have hrun:=Bu (P:=P) (a:=a) (w:=w) ho hcal
   rw [arr2 hy1] at hrun
   simp only [evOp] at h
   split at h<;>try (cases h; done)
   rename_i k n k' m h1 h2
   cases h
   rw [h1] at hv; rw [h2] at hv'
   have:=mm_ok (P:=P) (mx:=false) (c:=c.argTypes) (ty:=o.type) hv hv'
   simp only [Bool.false_eq_true,if_false] at this
   exact AG hnd (w':=w) (by rw [hrun]; simp only [builtin]; exact Aj this) (AH hI (by simp [V]))
 · -- copy
   rename_i hcal
   split at hc<;>try (cases hc; done)
   rename_i x x' t ht
   split at hc<;>try (cases hc; done)
   rename_i el hu
   split at hc<;>try (cases hc; done)
   rename_i n hn
   cases hc
   obtain ⟨y,y',hy1,hy2,hy3⟩:=F6 hargs
   have hv:=AM hG hT hy2
   have hv':=AM hG hT hy3
   have hrun:=Bu (P:=P) (a:=a) (w:=w) ho hcal
   rw [arr2 hy1] at hrun
   simp only [evOp] at h
   split at h<;>try (cases h; done)
   rename_i k1 n1 k2 n2 h1 h2
   split at h
   case isFalse =>
    obtain ⟨v,w',e1,e2⟩:=cp_ok (P:=P) (c:=c.argTypes) (ty:=o.type) hI ht hu hn hv hv' h
    exact AG hnd (w':=w') (by rw [hrun]; simp only [builtin]; exact Aj e1) e2
   rename_i h0
   cases h
   have:=cp0_ok (P:=P) (c:=c.argTypes) (ty:=o.type) ht hu hn hv hv' h1 h2 h0
   exact AG hnd (w':=w) (by rw [hrun]; simp only [builtin]; exact Aj this) (AH hI (by simp [V]))
 · -- where a slice lies
   rename_i hcal
   split at hc<;>try (cases hc; done)
   rename_i x t ht
   split at hc<;>try (cases hc; done)
   rename_i el hu
   cases hc
   obtain ⟨y,hy1,hy2⟩:=F5 hargs
   have hv:=AM hG hT hy2
   have hrun:=Bu (P:=P) (a:=a) (w:=w) ho hcal
   rw [arr1 hy1] at hrun
   simp only [evOp] at h
   obtain ⟨v,e1,e2,rfl⟩:=ud_ok (P:=P) (c:=c.argTypes) (ty:=o.type) hv h
   exact AG hnd (w':=w) (by rw [hrun]; simp only [builtin]; exact Aj e1) (AH hI e2)
 · -- bytes taken for a text
   rename_i hcal
   split at hc<;>try (cases hc; done)
   rename_i x x' t it hts
   split at hc<;>try (cases hc; done)
   rename_i el hu
   split at hc<;>try (cases hc; done)
   rename_i hcell
   cases hc
   obtain ⟨y,y',hy1,hy2,hy3⟩:=F6 hargs
   have hv:=AM hG hT hy2
   have hv':=AM hG hT hy3
   have hrun:=Bu (P:=P) (a:=a) (w:=w) ho hcal
   rw [arr2 hy1] at hrun
   simp only [evOp] at h
   have hct:c.argTypes=#[t,it]:=by apply Array.toList_inj.1; simpa using hts
   obtain ⟨v,w',e1,e2⟩:=us_ok (P:=P) (pt:=t) (it:=it) (ty:=o.type) hI hu hcell hv hv' h
   exact AG hnd (w':=w') (by rw [hrun,hct]; simp only [builtin]; exact Aj e1) e2
 · -- append
   rename_i hcal
   split at hc<;>try (cases hc; done)
   rename_i x x' t u ht hu
   obtain ⟨y,y',hy1,hy2,hy3⟩:=F6 hargs
   have hv:=AM hG hT hy2
   have hv':=AM hG hT hy3
   have hrun:=Bu (P:=P) (a:=a) (w:=w) ho hcal
   rw [arr2 hy1] at hrun
   have fin:∀ (el:Nat) (d:TypeDesc),P.underlying t=some (.slice el)→P.underlying u=some d→(∀ k,d≠.int k)→J7 P el x x'=some aop→Does rd P o a w (Good (CRof P gt) g s w s' r):=by
    intro el d h1 h2 h3 h4
    have hshape:∃ es T,aop=.app es T x x':=by
     unfold J7 at h4
     split at h4<;>try (cases h4; done)
     split at h4<;>try (cases h4; done)
     cases h4; exact ⟨_,_,rfl⟩
    obtain ⟨es,T,rfl⟩:=hshape
    obtain ⟨hT',_,_⟩:=QH ht hu h1 h2 h3 h4
    simp only [evOp] at h
    obtain ⟨v,w',e1,e2⟩:=orU_ok (P:=P) (c:=c.argTypes) (ty:=o.type) hI hT' hv hv' h
    exact AG hnd (w':=w') (by rw [hrun]; simp only [builtin]; exact Aj e1) e2
   split at hc<;>try (cases hc; done)
   · rename_i el e2 h1 h2; exact fin _ _ h1 h2 (by simp) hc
   · rename_i el h1 h2; exact fin _ _ h1 h2 (by simp) hc
   · rename_i el kn h1 h2
     unfold Ob at hc
     split at hc<;>try (cases hc; done)
     rename_i i z hi hz
     split at hc<;>try (cases hc; done)
     rename_i hcond
     cases hc
     simp only [evOp] at h
     obtain ⟨v,w',e1,e2⟩:=apz_ok (P:=P) (c:=c.argTypes) (ty:=o.type) hI ht hu h1 h2 hi rfl hcond.2.1 hcond.1 hz hcond.2.2 hv hv' h
     exact AG hnd (w':=w') (by rw [hrun]; simp only [builtin]; exact Aj e1) e2
 · cases hc
theorem QJ (hN:Bq P) (hG:GT gt g w) (hT:VT g s w e a.tmps) {c:Call} {pop:Bool} {f:Nat} {args:List X} (ho:o.op=.call c) (hc:Ep P gt pop o=some (.call f args)) :
    ∃ us,VL g s w (evX e args) us∧∀ R:Value→World→Prop,(Calls P f us.toArray w fun ex w'=>∃ v,ex=.returned v∧R v w')→Does rd P o a w R:=by
 have hnd:∀ c,o.op≠.defer c:=by simp [ho]
 unfold Ep at hc
 simp only [ho] at hc
 split at hc<;>try (cases hc; done)
 rename_i args' hargs
 have hvs:=Ja hG hT hargs
 have hmap:(c.args.toList.map a.eval).toArray=c.args.map a.eval:=by apply Array.toList_inj.1; simp
 unfold JU at hc
 split at hc
 · rename_i f' hcal
   split at hc<;>try (cases hc; done)
   rename_i F hF
   split at hc
   · rename_i b hb
     split at hc
     · cases hc
     · cases hc
       have hrun:(execOp a.eval o).run P w=(callFunc f (c.args.map a.eval)).run P w:=by
        simp [execOp,ho,resolve,hcal,Act.eval,Deferred.ofValue,invoke]
       refine ⟨_,hvs,fun R hR=>?_⟩
       refine Ef hnd (w':=w) (f:=f) (args:=c.args.map a.eval) (by rw [hrun]; exact Cp hN hF hb _) ?_
       rw [hmap] at hR
       exact hR
   · split at hc
     · cases hc
     · split at hc
       · split at hc<;>try (cases hc; done)
         split at hc<;>try (cases hc; done)
         split at hc<;>cases hc
       · split at hc<;>try (cases hc; done)
         unfold QM at hc
         split at hc<;>try (cases hc; done)
         split at hc<;>try (cases hc; done)
         split at hc<;>try (cases hc; done)
         split at hc<;>cases hc
 all_goals first
  | (cases hc; done)
  | (split at hc<;>first
     | (cases hc; done)
     | (split at hc<;>first
        | (cases hc; done)
        | (split at hc<;>first
           | (cases hc; done)
           | (split at hc<;>cases hc)
           | (unfold J7 at hc; split at hc<;>try (cases hc; done)
              split at hc<;>cases hc)
           | (unfold Ob at hc; split at hc<;>try (cases hc; done)
              split at hc<;>cases hc))
        | (unfold J7 at hc; split at hc<;>try (cases hc; done)
           split at hc<;>cases hc)
        | (unfold Ob at hc; split at hc<;>try (cases hc; done)
           split at hc<;>cases hc)))
end
end Go.Proofs.Ytfpoihibfajhlaa.Am

namespace Go.Proofs.Ytfpoihibfajhlaa.Am
section
variable {g0 g1:G} {s0 s1 s2:St} {w0 w1 w2:World}
structure Cut (g0:G) (s0:St) (w0:World) (g1:G) (s1:St) (w1:World) (s2:St) (w2:World):Prop where
 le:Le g0 s0 w0 g1 s1 w1
 nb:s0.nb≤s2.nb
 nt:s0.nt≤s2.nt
 tok:∀ k,k < s0.nt→s2.tok? k=s1.tok? k
 cell:∀ a v,w1.cell? a=some v→w2.cell? a=some v
 arr:∀ b,Cx w1 w2 b
theorem Cut.ok (h:Cut g0 s0 w0 g1 s1 w1 s2 w2) {m:Cap} (hk:Cw s0 m) (ho:s2.ok m=true):s1.ok m=true:=by
 cases m with
 | full=>rfl
 | shut=>rfl
 | tok k v=>simp only [St.ok] at ho ⊢; rw [← h.tok k hk.1]; exact ho
theorem Cut.known (h:Cut g0 s0 w0 g1 s1 w1 s2 w2) {m:Cap} (hk:Cw s0 m) (hk1:Cw s1 m):Cw s2 m:=by
 cases m with
 | full=>trivial
 | shut=>trivial
 | tok k v=>exact ⟨Nat.lt_of_lt_of_le hk.1 h.nt,fun t ht=>hk1.2 t (by rw [← h.tok k hk.1]; exact ht)⟩
theorem Cut.stays (h:Cut g0 s0 w0 g1 s1 w1 s2 w2) {m:Cap} (hk:Cw s0 m) {b o n:Nat} (hs:Gm g1 s1 m b o n):Gm g1 s2 m b o n:=by
 cases m with
 | full=>exact hs
 | shut=>exact hs
 | tok k v =>
   rcases hs with hs | ⟨t,ht,hs⟩
   · exact .inl hs
   · exact .inr ⟨t,by rw [h.tok k hk.1]; exact ht,hs⟩
theorem Cut.capis (h:Cut g0 s0 w0 g1 s1 w1 s2 w2) {m:Cap} (hk:Cw s0 m) {es len b o cap:Nat} (hs:Fv g1 s1 m es len b o cap):Fv g1 s2 m es len b o cap:=by
 cases m with
 | full=>exact hs
 | shut=>exact hs
 | tok k v =>
   obtain ⟨h1,h2,h3,h4⟩:=hs
   exact ⟨h1,h2,h3,fun t ht=>h4 t (by rw [← h.tok k hk.1]; exact ht)⟩
theorem Er (hc:∀ a v,w1.cell? a=some v→w2.cell? a=some v) {b o:Nat} {l:List Value} (h:BQ w1 b o l):BQ w2 b o l:=fun j v hj=>hc _ _ (h j v hj)
mutual
theorem Hw (h:Cut g0 s0 w0 g1 s1 w1 s2 w2):∀ (a:AV) (v0 v:Value),V g0 s0 w0 a v0→V g1 s1 w1 a v→V g1 s2 w2 a v
 | .b _,_,_,_,hv=>by simpa only [V] using hv
 | .i _ _,_,_,_,hv=>by simpa only [V] using hv
 | .s _,_,_,_,hv=>by simpa only [V] using hv
 | .np,_,_,_,hv=>by simpa only [V] using hv
 | .p id off,_,_,h0,hv=>by
   simp only [V] at h0 hv ⊢
   exact ⟨Nat.lt_of_lt_of_le h0.1 h.nb,hv.2⟩
 | .ep l off m,_,_,h0,hv=>by
   simp only [V] at h0 hv ⊢
   obtain ⟨b0,o0,cs0,_,hk0,hv0⟩:=h0
   obtain ⟨b,o,cs,he,hk,hv⟩:=hv
   refine ⟨b,o,cs,he,h.known hk0 hk,fun ho=>?_⟩
   have ho1:=h.ok hk0 ho
   obtain ⟨h1,h2,h3⟩:=hv ho1
   exact ⟨EJ h l cs0 cs (hv0 (Jn h.le hk0 ho1)).1 h1,Er h.cell h2,h.stays hk0 h3⟩
 | .nsl,_,_,_,hv=>by simpa only [V] using hv
 | .sl es xs m,_,_,h0,hv=>by
   simp only [V] at h0 hv ⊢
   obtain ⟨b0,o0,cap0,vs0,_,_,_,hk0,hv0⟩:=h0
   obtain ⟨b,o,cap,vs,he,hz,ha,hk,hv⟩:=hv
   refine ⟨b,o,cap,vs,he,hz,ha,h.known hk0 hk,fun ho=>?_⟩
   have ho1:=h.ok hk0 ho
   obtain ⟨h1,h2,h3,h4⟩:=hv ho1
   exact ⟨EJ h xs vs0 vs (hv0 (Jn h.le hk0 ho1)).1 h1,Er h.cell h2,h.stays hk0 h3,h.capis hk0 h4⟩
 | .ws f es xs,_,_,h0,hv=>by
   simp only [V] at h0 hv ⊢
   rcases hv with hv | hv | ⟨b,o,cap,vs,he,hz,ha,hk,hv⟩
   · exact .inl hv
   · exact .inr (.inl hv)
   have h00:xs=[]∨∃ vs0,Cw s0 (capM f)∧(s0.ok (capM f)=true→VL g0 s0 w0 xs vs0):=by
    rcases h0 with ⟨_,rfl⟩ | ⟨_,rfl⟩ | ⟨b0,o0,cap0,vs0,_,_,_,hk0,hv0⟩
    · exact .inl rfl
    · exact .inl rfl
    · exact .inr ⟨vs0,hk0,fun ho=>(hv0 ho).1⟩
   rcases h00 with rfl | ⟨vs0,hk0,hv0⟩
   · right; right
     refine ⟨b,o,cap,vs,he,hz,ha,E4.2,fun ho=>?_⟩
     obtain ⟨h1,h2,h3,h4⟩:=hv E4.1
     simp only [VL] at h1; subst h1
     refine ⟨by simp [VL],fun j v hj=>by simp [flat] at hj,?_,?_⟩
     · cases f<;>exact h3
     · cases f<;>exact h4
   refine .inr (.inr ⟨b,o,cap,vs,he,hz,ha,h.known hk0 hk,fun ho=>?_⟩)
   have ho1:=h.ok hk0 ho
   obtain ⟨h1,h2,h3,h4⟩:=hv ho1
   exact ⟨EJ h xs vs0 vs (hv0 (Jn h.le hk0 ho1)) h1,Er h.cell h2,h.stays hk0 h3,h.capis hk0 h4⟩
 | .bl id es off n e,_,_,h0,hv=>by
   simp only [V] at h0 hv ⊢
   obtain ⟨_,_,_,h1,_⟩:=h0
   obtain ⟨o,cap,he,_,h2,h3,h4,h5,h6⟩:=hv
   refine ⟨o,cap,he,Nat.lt_of_lt_of_le h1 h.nb,h2,h3,h4,h5,fun hq=>?_⟩
   obtain ⟨arr,T,fr,k1,k2⟩:=h6 hq
   obtain ⟨arr',fr',k3,k4⟩:=h.arr _ arr T fr k1
   exact ⟨arr',T,fr',k3,by rw [k4]; exact k2⟩
 | .sd xs k u,_,_,h0,hv=>by
   simp only [V] at h0 hv ⊢
   obtain ⟨b0,o0,cap0,vs0,_,_,_,hk0,hv0⟩:=h0
   obtain ⟨b,o,cap,vs,he,hz,ha,hk,hv⟩:=hv
   refine ⟨b,o,cap,vs,he,hz,ha,h.known hk0 hk,fun ho=>?_⟩
   have ho1:=h.ok hk0 ho
   obtain ⟨h1,h2,h3,h4⟩:=hv ho1
   exact ⟨EJ h xs vs0 vs (hv0 (Jn h.le hk0 ho1)).1 h1,Er h.cell h2,h.stays hk0 h3,h.capis hk0 h4⟩
 | .nm,_,_,_,hv=>by simpa only [V] using hv
 | .m id,_,_,h0,hv=>by
   simp only [V] at h0 hv ⊢
   exact ⟨Nat.lt_of_lt_of_le h0.1 h.nb,hv.2⟩
 | .nf,_,_,_,hv=>by simpa only [V] using hv
 | .fn f caps,_,_,h0,hv=>by
   simp only [V] at h0 hv ⊢
   obtain ⟨vs0,h01,_⟩:=h0
   obtain ⟨vs,h1,h2⟩:=hv
   exact ⟨vs,EJ h caps vs0 vs h01 h1,h2⟩
 | .yld id,_,_,h0,hv=>by
   simp only [V] at h0 hv ⊢
   exact ⟨Nat.lt_of_lt_of_le h0.1 h.nb,hv.2⟩
 | .ni,_,_,_,hv=>by simpa only [V] using hv
 | .ifc t a,_,_,h0,hv=>by
   simp only [V] at h0 hv ⊢
   obtain ⟨u0,h01,_⟩:=h0
   obtain ⟨u,h1,h2⟩:=hv
   exact ⟨u,Hw h a u0 u h01 h1,h2⟩
 | .agg l,_,_,h0,hv=>by
   simp only [V] at h0 hv ⊢
   obtain ⟨vs0,h01,_⟩:=h0
   obtain ⟨vs,h1,h2⟩:=hv
   exact ⟨vs,EJ h l vs0 vs h01 h1,h2⟩
 | .tup l,_,_,h0,hv=>by
   simp only [V] at h0 hv ⊢
   obtain ⟨vs0,h01,_⟩:=h0
   obtain ⟨vs,h1,h2⟩:=hv
   exact ⟨vs,EJ h l vs0 vs h01 h1,h2⟩
 | .any,_,_,_,hv=>by simpa only [V] using hv
 | .ige _,_,_,_,hv=>by simpa only [V] using hv
 | .wz,_,_,_,hv=>by simpa only [V] using hv
 | .mth nm a,_,_,h0,hv=>by
   simp only [V] at h0 hv ⊢
   obtain ⟨u0,h01,_⟩:=h0
   obtain ⟨u,h1,h2⟩:=hv
   exact ⟨u,Hw h a u0 u h01 h1,h2⟩
theorem EJ (h:Cut g0 s0 w0 g1 s1 w1 s2 w2):∀ (l:List AV) (vs0 vs:List Value),VL g0 s0 w0 l vs0→VL g1 s1 w1 l vs→VL g1 s2 w2 l vs
 | [],_,_,_,hv=>by simpa only [VL] using hv
 | a::l,_,_,h0,hv=>by
   simp only [VL] at h0 hv ⊢
   obtain ⟨v0,r0,_,h01,h02⟩:=h0
   obtain ⟨v,r,he,h1,h2⟩:=hv
   exact ⟨v,r,he,Hw h a v0 v h01 h1,EJ h l r0 r h02 h2⟩
end
mutual
theorem GU (hc:∀ a v,w1.cell? a=some v→w2.cell? a=some v):∀ (a:AV) (v:Value),a.refs=false→V g1 s1 w1 a v→V g1 s2 w2 a v
 | .b _,_,_,hv=>by simpa only [V] using hv
 | .i _ _,_,_,hv=>by simpa only [V] using hv
 | .s _,_,_,hv=>by simpa only [V] using hv
 | .np,_,_,hv=>by simpa only [V] using hv
 | .p id off,_,h0,_=>by simp [AV.refs] at h0
 | .ep l off m,_,h0,hv=>by
   cases m with
   | tok k u=>simp [AV.refs] at h0
   | full | shut =>
     simp only [AV.refs] at h0
     simp only [V] at hv ⊢
     obtain ⟨b,o,cs,he,hk,hv⟩:=hv
     refine ⟨b,o,cs,he,trivial,fun ho=>?_⟩
     obtain ⟨h1,h2,h3⟩:=hv rfl
     exact ⟨D6 hc l cs h0 h1,Er hc h2,h3⟩
 | .nsl,_,_,hv=>by simpa only [V] using hv
 | .sl es xs m,_,h0,hv=>by
   cases m with
   | tok k u=>simp [AV.refs] at h0
   | full | shut =>
     simp only [AV.refs] at h0
     simp only [V] at hv ⊢
     obtain ⟨b,o,cap,vs,he,hz,ha,hk,hv⟩:=hv
     refine ⟨b,o,cap,vs,he,hz,ha,trivial,fun ho=>?_⟩
     obtain ⟨h1,h2,h3,h4⟩:=hv rfl
     exact ⟨D6 hc xs vs h0 h1,Er hc h2,h3,h4⟩
 | .ws f es xs,_,h0,hv=>by
   simp only [AV.refs] at h0
   simp only [V] at hv ⊢
   rcases hv with hv | hv | ⟨b,o,cap,vs,he,hz,ha,hk,hv⟩
   · exact .inl hv
   · exact .inr (.inl hv)
   refine .inr (.inr ⟨b,o,cap,vs,he,hz,ha,E4.2,fun ho=>?_⟩)
   obtain ⟨h1,h2,h3,h4⟩:=hv E4.1
   refine ⟨D6 hc xs vs h0 h1,Er hc h2,?_,?_⟩
   · cases f<;>exact h3
   · cases f<;>exact h4
 | .bl _ _ _ _ _,_,h0,_=>by simp [AV.refs] at h0
 | .sd xs k u,_,h0,_=>by simp [AV.refs] at h0
 | .nm,_,_,hv=>by simpa only [V] using hv
 | .m id,_,h0,_=>by simp [AV.refs] at h0
 | .nf,_,_,hv=>by simpa only [V] using hv
 | .fn f caps,_,h0,hv=>by
   simp only [AV.refs] at h0
   simp only [V] at hv ⊢
   obtain ⟨vs,h1,h2⟩:=hv
   exact ⟨vs,D6 hc caps vs h0 h1,h2⟩
 | .yld id,_,h0,_=>by simp [AV.refs] at h0
 | .ni,_,_,hv=>by simpa only [V] using hv
 | .ifc t a,_,h0,hv=>by
   simp only [AV.refs] at h0
   simp only [V] at hv ⊢
   obtain ⟨u,h1,h2⟩:=hv
   exact ⟨u,GU hc a u h0 h1,h2⟩
 | .agg l,_,h0,hv=>by
   simp only [AV.refs] at h0
   simp only [V] at hv ⊢
   obtain ⟨vs,h1,h2⟩:=hv
   exact ⟨vs,D6 hc l vs h0 h1,h2⟩
 | .tup l,_,h0,hv=>by
   simp only [AV.refs] at h0
   simp only [V] at hv ⊢
   obtain ⟨vs,h1,h2⟩:=hv
   exact ⟨vs,D6 hc l vs h0 h1,h2⟩
 | .any,_,_,hv=>by simpa only [V] using hv
 | .ige _,_,_,hv=>by simpa only [V] using hv
 | .wz,_,_,hv=>by simpa only [V] using hv
 | .mth nm a,_,h0,hv=>by
   simp only [AV.refs] at h0
   simp only [V] at hv ⊢
   obtain ⟨u,h1,h2⟩:=hv
   exact ⟨u,GU hc a u h0 h1,h2⟩
theorem D6 (hc:∀ a v,w1.cell? a=some v→w2.cell? a=some v):∀ (l:List AV) (vs:List Value),AV.refs.go l=false→VL g1 s1 w1 l vs→VL g1 s2 w2 l vs
 | [],_,_,hv=>by simpa only [VL] using hv
 | a::l,_,h0,hv=>by
   simp only [AV.refs.go,Bool.or_eq_false_iff] at h0
   simp only [VL] at hv ⊢
   obtain ⟨v,r,he,h1,h2⟩:=hv
   exact ⟨v,r,he,GU hc a v h0.1 h1,D6 hc l r h0.2 h2⟩
end
theorem Le.cut (h:Cut g0 s0 w0 g1 s1 w1 s2 w2) (hsz:w1.heap.size≤w2.heap.size) (hnb:s2.nb≤s1.nb) (hnt:s2.nt≤s1.nt) (hbase:g0.base≤w0.heap.size) (hlow:∀ b,b < w0.heap.size→w2.heap[b]? = w1.heap[b]?) (hd:∀ b,b < w0.heap.size→w1.heap[b]? = some (.deferred (some []))→w2.heap[b]? = some (.deferred (some []))) (hio:w2.os=w1.os∧w2.output=w1.output:=by exact ⟨rfl,rfl⟩) :
    Le g0 s0 w0 g1 s2 w2 where
 io:=⟨hio.1.trans h.le.io.1,hio.2.trans h.le.io.2⟩
 base:=h.le.base
 size:=Nat.le_trans h.le.size hsz
 low:=fun b hb=>by rw [hlow b (Nat.lt_of_lt_of_le hb hbase)]; exact h.le.low b hb
 own:=fun b hb ho=>h.le.own b hb (ho.imp (fun ⟨id,h1,h2⟩=>⟨id,Nat.lt_of_lt_of_le h1 hnb,h2⟩) fun ⟨k,h1,h2⟩=>⟨k,Nat.lt_of_lt_of_le h1 hnt,h2⟩)
 frame:=fun b hb ho=>by
  obtain ⟨h1,h2⟩:=h.le.frame b hb ho
  exact ⟨(hlow b hb).trans h1,h2⟩
 prot:=h.le.prot
 cell:=fun b off v hs hc=>h.cell _ _ (h.le.cell b off v hs hc)
 dfr:=fun b hb=>hd b (Array.getElem?_eq_some_iff.1 hb).1 (h.le.dfr b hb)
 arr:=fun b a T f hb=>by
  obtain ⟨a2,f2,h2,e2⟩:=h.le.arr b a T f hb
  obtain ⟨a3,f3,h3,e3⟩:=h.arr b a2 T f2 h2
  exact ⟨a3,f3,h3,e3.trans e2⟩
 nb:=h.nb
 bx:=h.le.bx
 nt:=h.nt
 has:=fun k v t' hk ht=>h.le.has k v t' hk (by rw [← h.tok k hk.1]; exact ht)
 ok:=fun k v hk ho=>h.le.ok k v hk (h.ok (m:=.tok k v) hk ho)
 tok:=fun k t t' hk ht ht' hv=>by
  obtain ⟨k1,k2⟩:=h.le.tok k t t' hk ht (by rw [← h.tok k hk]; exact ht') hv
  exact ⟨fun off x ho hx=>h.cell _ _ (k1 off x ho hx),k2⟩
def Was (g0:G) (s0:St) (w0:World) (a:AV):Prop:=a.refs=false∨∃ v0,V g0 s0 w0 a v0
theorem Od (h:Cut g0 s0 w0 g1 s1 w1 s2 w2) {a:AV} {v:Value} (ha:Was g0 s0 w0 a) (hv:V g1 s1 w1 a v):V g1 s2 w2 a v:=by
 rcases ha with ha | ⟨v0,h0⟩
 · exact GU h.cell a v ha hv
 · exact Hw h a v0 v h0 hv
theorem NE (h:Cut g0 s0 w0 g1 s1 w1 s2 w2):∀ {l:List AV} {vs:List Value},(∀ a∈l,Was g0 s0 w0 a)→VL g1 s1 w1 l vs→VL g1 s2 w2 l vs
 | [],_,_,hv=>by simpa only [VL] using hv
 | a::l,_,ha,hv=>by
   simp only [VL] at hv ⊢
   obtain ⟨v,r,he,h1,h2⟩:=hv
   exact ⟨v,r,he,Od h (ha a (by simp)) h1,NE h (fun b hb=>ha b (by simp [hb])) h2⟩
theorem Pr (h:Cut g0 s0 w0 g1 s1 w1 s2 w2):∀ {l:List (AV×AV)} {es:List MapEntry},(∀ x∈l,Was g0 s0 w0 x.1∧Was g0 s0 w0 x.2)→VM g1 s1 w1 l es→VM g1 s2 w2 l es
 | [],_,_,hv=>hv
 | x::l,_,ha,⟨e,r,he,h1,h2,h3⟩=>⟨e,r,he,Od h (ha x (by simp)).1 h1,Od h (ha x (by simp)).2 h2,Pr h (fun b hb=>ha b (by simp [hb])) h3⟩
theorem Inv.cut {CR:Nat→Code→C→Prop} (h:Cut g0 s0 w0 g1 s1 w1 s2 w2) (hI:Inv CR g1 s1 w1) (hsz:w2.heap.size=w1.heap.size) (hh:∀ b:Nat,w2.heap[b]? = w1.heap[b]? ∨ ∃ ds,w1.heap[b]? = some (.deferred ds))
    (hnb:s2.nb≤s1.nb) (hnt:s2.nt≤s1.nt) (hlB:s2.boxes.length=s2.nb) (hlT:s2.toks.length=s2.nt) (hb:∀ id,id < s2.nb→s2.box? id=s1.box? id) (ht:∀ k,k < s2.nt→s2.tok? k=s1.tok? k)
    (hv:∀ id B,s2.box? id=some B→∀ a,vals B a→Was g0 s0 w0 a):Inv CR g1 s2 w2 where
 lenB:=hlB
 lenT:=hlT
 base:=by rw [hsz]; exact hI.base
 fresh:=by rw [hsz]; exact hI.fresh
 lt:=fun id hid=>by rw [hsz]; exact hI.lt id (by omega)
 box:=fun id B hB=>by
  have hid:=box?_lt hB
  have hB1:s1.box? id=some B:=by rw [← hb id hid]; exact hB
  have hOk:=hI.box id B hB1
  have hvals:=hv id B hB
  have same:∀ o:Obj,w1.heap[g1.bx id]? = some o→(∀ ds,o≠.deferred ds)→w2.heap[g1.bx id]? = some o:=by
   intro o ho hne
   rcases hh (g1.bx id) with h | ⟨ds,h⟩
   · rw [h]; exact ho
   · rw [ho] at h; cases h; exact absurd rfl (hne ds)
  cases B with
  | cells T l =>
    obtain ⟨arr,h1,h2⟩:=hOk
    exact ⟨arr,same _ h1 (fun _ hh=>by cases hh),NE h (fun a ha=>hvals a ha) h2⟩
  | map es =>
    obtain ⟨ents,clock,h1,h2,h3⟩:=hOk
    exact ⟨ents,clock,same _ h1 (fun _ hh=>by cases hh),Pr h (fun x hx=>⟨hvals x.1 ⟨x,hx,.inl rfl⟩,hvals x.2 ⟨x,hx,.inr rfl⟩⟩) h2,h3⟩
  | loop st pend tm ps x y =>
    obtain ⟨L,h1,h2,h3,h4,h5⟩:=hOk
    exact ⟨L,same _ h1 (fun _ hh=>by cases hh),h2,h3,⟨h4.1,fun t=>Od h (hvals _ ⟨t,rfl⟩) (h4.2 t)⟩,h5⟩
  | siter l pos =>
    obtain ⟨h1,h2⟩:=hOk
    exact ⟨same _ h1 (fun _ hh=>by cases hh),h2⟩
  | row T l fz rm =>
    obtain ⟨arr,fr,h1,h2,vs,rest,h3,h4,h5⟩:=hOk
    exact ⟨arr,fr,same _ h1 (fun _ hh=>by cases hh),h2,vs,rest,h3,NE h (fun a ha=>hvals a ha) h4,h5⟩
  | used=>trivial
 pr:=fun id B hB hf=>hI.pr id B (by rw [← hb id (box?_lt hB)]; exact hB) hf
 inj:=fun i j A B hA hB la lb=>hI.inj i j A B (by rw [← hb i (box?_lt hA)]; exact hA) (by rw [← hb j (box?_lt hB)]; exact hB) la lb
 tlt:=fun k t hk=>by rw [hsz]; exact hI.tlt k t (by rw [← ht k (tok?_lt hk)]; exact hk)
 tok:=fun k t htk=>by
  have hk:=tok?_lt htk
  obtain ⟨q1,q2,q3,q4,q5,arr,T,fr,h1,h2,h3⟩:=hI.tok k t (by rw [← ht k hk]; exact htk)
  refine ⟨q1,q2,q3,q4,q5,arr,T,fr,?_,h2,h3⟩
  rcases hh (g1.tk k).blk with h | ⟨ds,h⟩
  · rw [h]; exact h1
  · rw [h1] at h; cases h
 tall:=fun k hk=>by rw [hsz]; exact hI.tall k (by omega)
 tinj:=fun i j t u hi hj=>hI.tinj i j t u (by rw [← ht i (tok?_lt hi)]; exact hi) (by rw [← ht j (tok?_lt hj)]; exact hj)
 btk:=fun i B k t hB lb hk=>hI.btk i B k t (by rw [← hb i (box?_lt hB)]; exact hB) lb (by rw [← ht k (tok?_lt hk)]; exact hk)
end
section
variable {P:Program} {gt:Nat→Option (List AV)} {g g2:G} {s s' s2:St} {w w2:World} {r:AV}
theorem NF:∀ {l:List AV} {vs:List Value},VL g s w l vs→∀ {a:AV},a∈l→∃ v,V g s w a v
 | b::l,_,h,a,ha=>by
   simp only [VL] at h
   obtain ⟨v,r,rfl,h1,h2⟩:=h
   rcases List.mem_cons.1 ha with rfl | ha
   · exact ⟨v,h1⟩
   · exact NF h2 ha
theorem Ps:∀ {l:List (AV×AV)} {es:List MapEntry},VM g s w l es→∀ {x:AV×AV},x∈l→∃ v1 v2,V g s w x.1 v1∧V g s w x.2 v2
 | y::l,_,⟨e,r,he,h1,h2,h3⟩,x,hx=>by
   rcases List.mem_cons.1 hx with rfl | hx
   · exact ⟨_,_,h1,h2⟩
   · exact Ps h3 hx
theorem NG {CR:Nat→Code→C→Prop} (hI:Inv CR g s w) {id:Nat} {B:Box} (hB:s.box? id=some B) {a:AV} (ha:vals B a):∃ v,V g s w a v:=by
 have hOk:=hI.box id B hB
 cases B with
 | cells T l =>
   obtain ⟨arr,h1,h2⟩:=hOk
   exact NF h2 ha
 | map es =>
   obtain ⟨ents,clock,h1,h2,_⟩:=hOk
   obtain ⟨x,hx,ha⟩:=ha
   obtain ⟨v1,v2,k1,k2⟩:=Ps h2 hx
   rcases ha with rfl | rfl
   · exact ⟨v1,k1⟩
   · exact ⟨v2,k2⟩
 | loop st pend tm ps x y =>
   obtain ⟨L,h1,h2,h3,h4,h5⟩:=hOk
   obtain ⟨t,rfl⟩:=ha
   exact ⟨_,h4.2 t⟩
 | siter l pos=>exact ha.elim
 | row T l fz =>
   obtain ⟨arr,fr,h1,h2,vs,rest,h3,h4,_⟩:=hOk
   exact NF h4 ha
 | used=>exact ha.elim
theorem Hj {v:Value} (hI:Inv (CRof P gt) g2 s2 w2) (hL:Le g { s with lo:=s.nb } w g2 s2 w2) (hE:Esc { s with lo:=s.nb } s2) (hV:V g2 s2 w2 r v):Good (CRof P gt) g s w { s2 with lo:=min s.lo s2.lo } r v w2:=by
 refine ⟨g2,hI.lo _,((Le.lo s.nb).trans hL).trans (Le.lo _),CY (Le.lo _) _ _ hV,Nat.min_le_left _ _,fun nb h1 h2 id B' hid hB a ha=>?_⟩
 exact hE.2 nb h1 (by have:nb≤min s.lo s2.lo:=h2; omega) id B' hid hB a ha
theorem Lv {v:Value} (hI0:Inv (CRof P gt) g s w) (hI:Inv (CRof P gt) g2 s2 w2) (hL:Le g { s with lo:=s.nb } w g2 s2 w2) (hE:Esc { s with lo:=s.nb } s2) (hV:V g2 s2 w2 r v):Good (CRof P gt) g s w (leave s s2 r) r v w2:=by
 unfold leave
 split
 · rename_i hc
   simp only [Bool.and_eq_true,Nat.ble_eq,Bool.not_eq_true'] at hc
   obtain ⟨hlo,href⟩:=hc
   have hLe:Le g s w g2 s2 w2:=(Le.lo s.nb).trans hL
   have hnb:=hLe.nb
   have hnt:=hLe.nt
   obtain ⟨s3,hs3⟩:∃ s3:St,{ nb:=s.nb,boxes:=s2.boxes.drop (s2.nb - s.nb),nt:=s.nt,toks:=s2.toks.drop (s2.nt - s.nt),lo:=s.lo }=s3:=⟨_,rfl⟩
   rw [hs3]
   have e1:s3.nb=s.nb:=by rw [← hs3]
   have e2:s3.nt=s.nt:=by rw [← hs3]
   have hb:∀ id,id < s3.nb→s3.box? id=s2.box? id:=fun id hid=>by
    rw [e1] at hid
    rw [← hs3]
    simp only [St.box?]
    have k1:Nat.blt id s.nb=true:=by rw [Nat.blt_eq]; exact hid
    have k2:Nat.blt id s2.nb=true:=by rw [Nat.blt_eq]; omega
    rw [k1,k2]
    simp only [cond_true,List.getElem?_drop]
    congr 1; omega
   have ht:∀ k,k < s3.nt→s3.tok? k=s2.tok? k:=fun k hk=>by
    rw [e2] at hk
    rw [← hs3]
    simp only [St.tok?]
    have k1:Nat.blt k s.nt=true:=by rw [Nat.blt_eq]; exact hk
    have k2:Nat.blt k s2.nt=true:=by rw [Nat.blt_eq]; omega
    rw [k1,k2]
    simp only [cond_true,List.getElem?_drop]
    congr 2; omega
   have hcut:Cut g s w g2 s2 w2 s3 w2:=⟨hLe,by omega,by omega,fun k hk=>ht k (by omega),fun _ _ h=>h,fun _=>.same rfl⟩
   have hvals:∀ id B,s3.box? id=some B→∀ a,vals B a→a.refs=false∨∃ B0,s.box? id=some B0∧vals B0 a:=fun id B hB a ha=>by
    have hid:=box?_lt hB
    rw [hb id hid] at hB
    exact hE.2 s.nb (Nat.le_refl _) hlo id B (by omega) hB a ha
   refine ⟨g2,Inv.cut hcut hI rfl (fun _=>.inl rfl) (by omega) (by omega) ?_ ?_ hb ht ?_,Le.cut hcut (Nat.le_refl _) (by omega) (by omega) hI0.base (fun _ _=>rfl) (fun _ _ h=>h),GU (fun _ _ h=>h) r v href hV,?_⟩
   · rw [← hs3]; simp [hI.lenB]; omega
   · rw [← hs3]; simp [hI.lenT]; omega
   · intro id B hB a ha
     rcases hvals id B hB a ha with h | ⟨B0,h0,ha0⟩
     · exact .inl h
     · exact .inr (NG hI0 h0 ha0)
   · refine ⟨by rw [← hs3]; exact Nat.le_refl _,fun nb _ _ id B' _ hB a ha=>hvals id B' hB a ha⟩
 · exact Hj hI hL hE hV
end
end Go.Proofs.Ytfpoihibfajhlaa.Am

namespace Go.Proofs.Ytfpoihibfajhlaa.Am
section
variable {rd:Option Nat} {P:Program} {gt:Nat→Option (List AV)} {prog:Nat→Option Fun} {self:Self} {g:G} {s s':St} {w:World} {e e':Tr} {a:Act} {o:Oper} {r:AV}
theorem I5 (hS:SelfOk P gt self) (hN:Bq P) (hX:Ctx P gt prog) (hI:Inv (CRof P gt) g s w) (hG:GT gt g w) (hT:VT g s w e a.tmps) {pop:Bool} {aop:AOp}
    (hc:Ep P gt pop o=some aop) (h:evOp self e s aop=some (r,s')):Does rd P o a w (Good (CRof P gt) g s w s' r):=by
 by_cases hcall:∃ c,o.op=.call c
 · obtain ⟨c,ho⟩:=hcall
   exact QI hS hN hX hI hG hT ho hc h
 · exact Nx hI hG hT hc (fun c hh=>hcall ⟨c,hh⟩) h
theorem M9 {name:String} {t f:Nat} (hf:(J8 P name).lookup t=some f):Mk P name t=some f:=by
 unfold J8 at hf
 have : ∀ {l:List (Nat×Nat)},l.lookup t=some f→(t,f)∈l:=by
  intro l
  induction l with
  | nil=>intro h; simp at h
  | cons q l ih =>
    obtain ⟨a,c⟩:=q
    intro h
    rw [List.lookup_cons] at h
    split at h
    · rename_i he
      have:t=a:=by simpa using he
      subst this
      cases h; simp
    · exact List.mem_cons_of_mem _ (ih h)
 have:=this hf
 rw [List.mem_filterMap] at this
 obtain ⟨t',_,ht'⟩:=this
 rw [Option.map_eq_some_iff] at ht'
 obtain ⟨f',h1,h2⟩:=ht'
 cases h2
 exact h1
theorem J6 {name:String} {t f:Nat} {u:Value} (hinv:Mk P name t=some f) (n:Nat):(nilAhead (n+1) t u name).run P w=.ok (some false) w:=by
 unfold Mk at hinv
 split at hinv<;>try (cases hinv; done)
 rename_i i d hi hd
 split at hinv<;>try (cases hinv; done)
 rename_i m hm
 split at hinv<;>try (cases hinv; done)
 rename_i f' pr hpath hfunc
 have hfo:(followBlind m.path.toList t (some u)).run P w=.ok (.ok (t,some u)) w:=by rw [hpath]; rfl
 simp only [nilAhead,Sem.run_bind,BD hi,Result.andThen_ok,hm,hfo,hfunc]
 cases pr with
 | true=>rfl
 | false =>
   simp only [Sem.run_bind,AA hd,Result.andThen_ok]
   cases d<;>first | rfl | (simp only at hinv; cases hinv; done)
theorem Mg {s:St} {oA oB:Option (AV×St)} (h:Iz s oA oB=some (r,s')):∃ tA tB,oA=some (r,tA)∧oB=some (r,tB)∧s'=leave s tA r∧s'=leave s tB r:=by
 unfold Iz at h
 split at h<;>try (cases h; done)
 rename_i rA tA rB tB
 split at h<;>try (cases h; done)
 rename_i hc
 cases h
 have h1:=Hs _ _ hc.1
 subst h1
 exact ⟨tA,tB,rfl,rfl,rfl,QD hc.2⟩
theorem OZ {f:Nat} {args:List X} {us:List Value} (hS:SelfOk P gt self) (hI:Inv (CRof P gt) g s w) (hG:GT gt g w) (hus:VL g s w (evX e args) us) (h:evOp self e s (.callI f args)=some (r,s')) :
    Calls P f us.toArray w fun ex w'=>∃ v,ex=.returned v∧Good (CRof P gt) g s w s' r v w':=by
 simp only [evOp] at h
 split at h<;>try (cases h; done)
 rename_i x l hev
 rw [hev] at hus
 split at h<;>try (cases h; done)
 rename_i vs s1 hp
 simp only [VL] at hus
 obtain ⟨v,us,rfl,hv,hus⟩:=hus
 obtain ⟨g1,hI1,hL1,hV1,hE1⟩:=EQ hI hus hp
 have hv1:=CY hL1 _ _ hv
 split at h
 · rename_i es xs k T hsp
   unfold Pt at hsp
   split at hsp<;>try (cases hsp; done)
   rename_i es' xs' k' ve
   split at hsp<;>try (cases hsp; done)
   rename_i fr0 ve' pu T' ht
   split at hsp<;>try (cases hsp; done)
   rename_i hc
   obtain ⟨rfl,rfl,rfl⟩:=hc
   cases hsp
   obtain ⟨tA,tB,hA,hB,rfl,hsB⟩:=Mg h
   obtain ⟨cap,rfl,h1,h2,key⟩:=MJ hI1 hv1 ht
   obtain ⟨hIk,hLk,hEk⟩:=La hI1 ht
   have fin:∀ {g2:G} {s2:St} {bx:AV} {t:St},Inv (CRof P gt) g2 s2 w→Le g1 ({ s1.killTok k with lo:=s1.nb }:St) w g2 s2 w→Esc ({ s1.killTok k with lo:=s1.nb }:St) s2 →
       V g2 s2 w bx (.slice (some ⟨(g1.tk k).blk,0,none⟩) xs.length cap)→self.call f (bx::vs) s2=some (r,t) →
       Calls P f (Value.slice (some ⟨(g1.tk k).blk,0,none⟩) xs.length cap::us).toArray w fun ex w'=>∃ v,ex=.returned v∧Good (CRof P gt) g s w (leave (s1.killTok k) t r) r v w':=by
    intro g2 s2 bx t i1 i2 i3 i4 hcl
    have hL12:Le g1 s1 w g2 s2 w:=(hLk.trans (Le.lo _)).trans i2
    have hVs:=Ap hL12 _ _ hV1
    have:=hS.call _ _ _ _ _ hcl g2 w (Value.slice (some ⟨(g1.tk k).blk,0,none⟩) xs.length cap::us) i1 (hG.mono (hL1.trans hL12)) (by simp only [VL]; exact ⟨_,_,rfl,i4,hVs⟩)
    refine this.mono fun ex w' ⟨v,hv,hg⟩=>⟨v,hv,?_⟩
    obtain ⟨g3,j1,j2,j3,j4⟩:=hg
    have:=Lv hIk j1 (i2.trans j2) (Esc.trans i2.nb i3 j4) j3
    exact Good.from hL1 hE1 (Good.from hLk hEk this)
   by_cases hcap:cap=xs.length
   · obtain ⟨g2,i1,i2,i3,i4⟩:=key s1.nb (xs.length*es,true) 0 (.inr rfl) ⟨by rw [hcap]; exact Nat.le_refl _,fun _=>by rw [hcap]⟩ (Nat.zero_le _)
     exact fin i1 i2 i3 i4 hA
   · have hle:(xs.length+1)*es≤cap*es:=Nat.mul_le_mul_right es (by omega)
     obtain ⟨g2,i1,i2,i3,i4⟩:=key s1.nb ((xs.length+1)*es,false) ((xs.length+1)*es) (.inr rfl) ⟨hle,fun h=>by cases h⟩ hle
     rw [hsB]
     exact fin i1 i2 i3 i4 hB
 · split at h<;>try (cases h; done)
   rename_i v' s2 hpx
   obtain ⟨g2,hI2,hL2,hV2,hE2⟩:=FL hI1 hv1 hpx
   have:=hS.call _ _ _ _ _ h g2 w (v::us) hI2 (hG.mono (hL1.trans hL2)) (by simp only [VL]; exact ⟨_,_,rfl,hV2,Ap hL2 _ _ hV1⟩)
   exact this.mono fun ex w' ⟨v,hv,hg⟩=>⟨v,hv,Good.from hL1 hE1 (Good.from hL2 hE2 hg)⟩
theorem JP {w:World}:∀ {xs xs':List AV} {s s':St} {g:G} {vs:List Value},Inv (CRof P gt) g s w→VL g s w xs vs→Jb s xs=some (xs',s') →
    ∃ g2,Inv (CRof P gt) g2 s' w∧Le g s w g2 s' w∧VL g2 s' w xs' vs∧Esc s s'∧xs'.length=xs.length
 | [],xs',s,s',g,vs,hI,hv,h=>by
   simp only [Jb] at h
   cases h
   exact ⟨g,hI,Le.refl _ _ _,hv,Esc.refl _,rfl⟩
 | a :: r,xs',s,s',g,vs,hI,hv,h=>by
   simp only [VL] at hv
   obtain ⟨v,vr,rfl,h1,h2⟩:=hv
   have rest:∀ {a':AV} {s1:St} {g1:G},Inv (CRof P gt) g1 s1 w→Le g s w g1 s1 w→V g1 s1 w a' v→Esc s s1→∀ {r':List AV},Jb s1 r=some (r',s') →
       ∃ g2,Inv (CRof P gt) g2 s' w∧Le g s w g2 s' w∧VL g2 s' w (a'::r') (v::vr)∧Esc s s'∧(a'::r').length=(a::r).length:=by
    intro a' s1 g1 hI1 hL1 hV1 hE1 r' hr
    obtain ⟨g2,hI2,hL2,hV2,hE2,hl⟩:=JP hI1 (Ap hL1 _ _ h2) hr
    exact ⟨g2,hI2,hL1.trans hL2,by simp only [VL]; exact ⟨v,vr,rfl,CY hL2 _ _ hV1,hV2⟩,Esc.trans hL1.nb hE1 hE2,by simp [hl]⟩
   have plain:∀ {r':List AV},Jb s r=some (r',s')→∃ g2,Inv (CRof P gt) g2 s' w∧Le g s w g2 s' w∧VL g2 s' w (a::r') (v::vr)∧Esc s s'∧(a::r').length=(a::r).length :=
    fun hr=>rest hI (Le.refl _ _ _) h1 (Esc.refl _) hr
   unfold Jb at h
   split at h
   · rename_i e; cases e
   · rename_i l r0 e
     cases e
     split at h<;>try (cases h; done)
     rename_i l' s1 hp
     split at h<;>try (cases h; done)
     rename_i r' s2 hr
     cases h
     simp only [V] at h1
     obtain ⟨us,k1,rfl⟩:=h1
     obtain ⟨g1,hI1,hL1,hV1,hE1⟩:=EQ hI k1 hp
     exact rest hI1 hL1 (a':=.agg l') (by simp only [V]; exact ⟨us,hV1,rfl⟩) hE1 hr
   · rename_i a0 r0 hne e
     cases e
     split at h<;>try (cases h; done)
     rename_i r' s2 hr
     cases h
     exact plain hr
theorem Oa {g:G} {s s':St} {w:World} {v r:AV} {u:Value} (hI:Inv (CRof P gt) g s w) (hv:V g s w v u) (h:LN false s v=some (r,s')):Good (CRof P gt) g s w s' r u w:=by
 unfold LN at h
 split at h<;>try contradiction
 · split at h<;>try (cases h; done)
   rename_i l s1 hp
   cases h
   simp only [V] at hv
   obtain ⟨vs,k1,rfl⟩:=hv
   obtain ⟨g1,hI1,hL1,hV1,hE1⟩:=EQ hI k1 hp
   exact ⟨g1,hI1,hL1,by simp only [V]; exact ⟨vs,hV1,rfl⟩,hE1⟩
 · rename_i es xs k vv x5
   split at h<;>try (cases h; done)
   rename_i a s1 hp
   obtain ⟨g1,hI1,hL1,hV1,hE1⟩:=FL hI hv hp
   have ha:a=.sl es xs .shut:=by
    simp only [pub] at hp
    split at hp<;>try (cases hp; done)
    split at hp<;>cases hp
    rfl
   split at h
   · split at h<;>try (cases h; done)
     rename_i xs' s2 he
     split at h<;>cases h
     rename_i hal
     rw [ha] at hV1
     have hV2:=hV1
     simp only [V] at hV2
     obtain ⟨b,o,cap,vs,rfl,h1,h2,h3,h4⟩:=hV2
     obtain ⟨k1,k2,k3,k4⟩:=h4 rfl
     obtain ⟨g2,hI2,hL2,hVL,hE2,hlen⟩:=JP hI1 k1 he
     have hV3:=CY hL2 _ _ hV1
     simp only [V] at hV3 ⊢
     obtain ⟨b',o',cap',vs',e,h1',h2',h3',h4'⟩:=hV3
     simp only [Value.slice.injEq,Option.some.injEq,Addr.mk.injEq] at e
     obtain ⟨⟨rfl,rfl,_⟩,_,rfl⟩:=e
     obtain ⟨_,_,k3',k4'⟩:=h4' rfl
     refine ⟨g2,hI2,hL1.trans hL2,?_,Esc.trans hL1.nb hE1 hE2⟩
     simp only [V]
     rw [← hlen] at h1 k3' k4' ⊢
     exact ⟨b,o,cap,vs,rfl,h1,hal,h3',fun _=>⟨hVL,k2,k3',k4'⟩⟩
   · cases h
     exact ⟨g1,hI1,hL1,hV1,hE1⟩
 · exact FL hI hv h
theorem QK (hS:SelfOk P gt self) (hN:Bq P) (hX:Ctx P gt prog) (hI:Inv (CRof P gt) g s w) (hG:GT gt g w) (hT:VT g s w e a.tmps) {pop:Bool×Nat×String} {aop:AOp}
    (hc:GR P gt pop o=some aop) (h:evOp self e s aop=some (r,s')):Does rd P o a w (Good (CRof P gt) g s w s' r):=by
 obtain ⟨pop,q,nm⟩:=pop
 unfold GR at hc
 split at hc
 · rename_i x0 x ho hc0
   simp only at hc hc0
   split at hc
   · cases hc; exact I5 hS hN hX hI hG hT hc0 h
   · cases hc
     unfold Ep at hc0
     simp only [ho] at hc0
     split at hc0<;>try (cases hc0; done)
     rename_i y hy
     cases hc0
     have hv:=AM hG hT hy
     simp only [evOp] at h
     split at h<;>try (cases h; done)
     rename_i nm' t v heq
     split at h<;>try (cases h; done)
     rename_i hcond
     cases h
     rw [heq] at hv
     have hv0:=hv
     simp only [V] at hv
     obtain ⟨u,⟨u2,hu2,rfl⟩,hval⟩:=hv
     have hnm:=JY hcond.1
     subst hnm
     rw [JH] at hval
     obtain ⟨f,hf⟩:=Option.isSome_iff_exists.1 hcond.2
     have hinv:=M9 hf
     have hmax:∃ n,P.types.size+Made.depth=n+1:=by
      refine ⟨P.types.size+(Made.depth - 1),?_⟩
      have:Made.depth=(Made.depth - 1)+1:=by decide
      omega
     obtain ⟨n,hn⟩:=hmax
     have hrun:=J6 (P:=P) (w:=w) (u:=u2) hinv n
     refine AG (v:=a.eval x0) (w':=w) (by simp [ho]) ?_ (AH hI hv0)
     have e0:(#[Value.iface t u2]:Array Value)[0]? = some (.iface t u2):=rfl
     simp [execOp,ho,hval,e0,hn,hrun]
 · rename_i c0 aop0 ho hc0
   cases hc
   by_cases hq:∃ f args,aop0=.call f args∧((∃ b,Hu q aop0=.callQ b f args)∨Hu q aop0=.callI f args)
   case neg =>
    by_cases hap:∃ es T x y,aop0=.app es T x y∧Hu q aop0=.appQ es T x y
    case pos =>
     obtain ⟨es,T,x,y,rfl,hq2⟩:=hap
     rw [hq2] at h
     simp only [evOp,Og] at h
     split at h<;>try (cases h; done)
     rename_i v s2 hcl
     have h0:evOp self e s (.app es T x y)=some (v,s2):=by simp only [evOp,hcl,orU]
     refine fun next Q hn=>I5 (rd:=rd) hS hN hX hI hG hT hc0 h0 next Q fun u w' hg=>hn u w' ?_
     obtain ⟨g1,hI1,hL1,hV1,hE1⟩:=hg
     refine Good.from hL1 hE1 ?_
     exact FL hI1 hV1 h
    by_cases hab:∃ es T x y,aop0=.app es T x y∧Hu q aop0=.appB es T x y
    case pos =>
     obtain ⟨es,T,x,y,rfl,hq2⟩:=hab
     rw [hq2] at h
     simp only [evOp,Oh] at h
     split at h<;>try (cases h; done)
     rename_i v s2 hcl
     have h0:evOp self e s (.app es T x y)=some (v,s2):=by simp only [evOp,hcl,orU]
     refine fun next Q hn=>I5 (rd:=rd) hS hN hX hI hG hT hc0 h0 next Q fun u w' hg=>hn u w' ?_
     obtain ⟨g1,hI1,hL1,hV1,hE1⟩:=hg
     refine Good.from hL1 hE1 ?_
     exact Lb hI1 hV1 h
    have:Hu q aop0=aop0:=by
     unfold Hu
     split
     · exact absurd ⟨_,_,rfl,.inl ⟨_,rfl⟩⟩ hq
     · exact absurd ⟨_,_,rfl,.inl ⟨_,rfl⟩⟩ hq
     · exact absurd ⟨_,_,rfl,.inr rfl⟩ hq
     · exact absurd ⟨_,_,rfl,.inl ⟨_,rfl⟩⟩ hq
     · exact absurd ⟨_,_,_,_,rfl,rfl⟩ hap
     · exact absurd ⟨_,_,_,_,rfl,rfl⟩ hab
     · rfl
    rw [this] at h
    exact I5 hS hN hX hI hG hT hc0 h
   case pos =>
    obtain ⟨f,args,rfl,hq⟩:=hq
    rcases hq with ⟨b,hq⟩ | hq
    · rw [hq] at h
      simp only [evOp] at h
      split at h<;>try (cases h; done)
      rename_i vs s1 hp
      split at h<;>try (cases h; done)
      rename_i v s2 hcl
      have h0:evOp self e s (.call f args)=some (v,s2):=by simp only [evOp,hp,hcl]
      refine fun next Q hn=>I5 (rd:=rd) hS hN hX hI hG hT hc0 h0 next Q fun u w' hg=>hn u w' ?_
      obtain ⟨g1,hI1,hL1,hV1,hE1⟩:=hg
      refine Good.from hL1 hE1 ?_
      cases b with
      | true=>exact Lb hI1 hV1 h
      | false=>exact Oa hI1 hV1 h
    · rw [hq] at h
      obtain ⟨us,hus,hcall⟩:=QJ (rd:=rd) hN hG hT ho hc0
      refine hcall _ ?_
      exact OZ hS hI hG hus h
 · rename_i aop0 hc0 _ _
   cases hc
   exact I5 hS hN hX hI hG hT hc0 h
 · cases hc
theorem Ri {x:AV} {b:Bool} (h:V g s w x (.bool b)):x=.b b:=by
 cases x<;>simp only [V] at h
 case b=>cases h; rfl
 case i=>cases h
 case s=>cases h.1
 case np=>cases h
 case p=>cases h.2
 case ep=>obtain ⟨_,_,_,h,_⟩:=h; cases h
 case nsl=>cases h
 case sl=>obtain ⟨_,_,_,_,h,_⟩:=h; cases h
 case ws =>
  rcases h with ⟨h,_⟩ | ⟨⟨_,h⟩,_⟩ | ⟨_,_,_,_,h,_⟩<;>cases h
 case wz=>obtain ⟨_,h⟩:=h; cases h
 case bl=>obtain ⟨_,_,h,_⟩:=h; cases h
 case sd=>obtain ⟨_,_,_,_,h,_⟩:=h; cases h
 case nm=>cases h
 case m=>cases h.2
 case nf=>cases h
 case fn=>obtain ⟨_,_,h⟩:=h; cases h
 case yld=>cases h.2
 case ni=>cases h
 case ifc=>obtain ⟨_,_,h⟩:=h; cases h
 case agg=>obtain ⟨_,_,h⟩:=h; cases h
 case tup=>obtain ⟨_,_,h⟩:=h; cases h
 case any=>obtain ⟨_,_,h⟩:=h; cases h
 case ige=>obtain ⟨_,h,_⟩:=h; cases h
 case mth=>obtain ⟨_,_,h⟩:=h; cases h
theorem JQ (hT:VT g s w e a.tmps) {ops:Array Oper} {gd:Option (Nat×Bool)}
    (h:match o.guard with
     | none=>gd=none
     | some (j,want)=>∃ oj d,ops[j]? = some oj∧oj.dst=some d∧d < a.tmps.size∧gd=some (d,want)) :
    Region.wanted o (yielded ops a.tmps)=BE e gd:=by
 unfold Region.wanted
 cases hg:o.guard with
 | none=>simp only [hg] at h; subst h; rfl
 | some jw =>
   obtain ⟨j,want⟩:=jw
   simp only [hg] at h
   obtain ⟨oj,d,h1,h2,h3,rfl⟩:=h
   have hv:=hT.2 d
   have hget:a.tmps[d]? = some a.tmps[d]:=Array.getElem?_eq_getElem h3
   have hD:a.tmps.getD d Go.undef=a.tmps[d]:=by simp [Array.getD_eq_getD_getElem?,h3]
   rw [hD] at hv
   simp only [yielded,h1,Option.bind_some,h2,hget,BE]
   cases hval:a.tmps[d] with
   | bool b =>
     rw [hval] at hv
     rw [Ri hv]
     simp only
     cases b<;>cases want<;>rfl
   | _ =>
     have hnb:∀ b,e.get d≠.b b:=by
      intro b hb
      rw [hb,hval] at hv
      simp [V] at hv
     simp only
     cases hx:e.get d<;>first | rfl | exact absurd hx (hnb _)
def GH (P:Program) (gt:Nat→Option (List AV)) (g:G) (s:St) (w:World) (a:Act) (e':Tr) (s':St) (a':Act) (w':World):Prop :=
 a'.tmps.size=a.tmps.size∧a'.defers=a.defers∧∃ g',Inv (CRof P gt) g' s' w'∧Le g s w g' s' w'∧VT g' s' w' e' a'.tmps∧Esc s s'
theorem GQ (a:Act) (d:Option Tmp) (v:Value):(a.put d v).tmps.size=a.tmps.size∧(a.put d v).defers=a.defers:=by cases d<;>simp [Act.put]
theorem NA (hS:SelfOk P gt self) (hN:Bq P) (hX:Ctx P gt prog) {pop:Bool×Nat×String} {n:Nat} {ops:Array Oper} {Q:Exit→Act→World→Prop}:∀ (l:List Oper) (k:Nat),l=ops.toList.drop k→∀ {cl:List Op} {e e':Tr} {s s':St} {g:G} {w:World} {a:Act},
    Di P gt pop n ops l=some cl→EV self cl e s=some (e',s')→Inv (CRof P gt) g s w→GT gt g w→VT g s w e a.tmps→a.tmps.size=n →
    (∀ a' w',GH P gt g s w a e' s' a' w'→Q .normal a' w')→wpOpsIn (Ee rd) 0 P ops Q (List.range' k (ops.size - k)) a w
 | [],k,hl,cl,e,e',s,s',g,w,a,hc,h,hI,hG,hT,hn,hQ=>by
   simp only [Di] at hc; cases hc
   simp only [EV] at h; cases h
   have:ops.size - k=0:=by
    have h0:=List.drop_eq_nil_iff.1 hl.symm
    rw [Array.length_toList] at h0
    omega
   rw [this]
   simp only [List.range'_zero,wpOpsIn]
   exact hQ a w ⟨rfl,rfl,g,hI,Le.refl _ _ _,hT,Esc.refl _⟩
 | o :: l,k,hl,cl,e,e',s,s',g,w,a,hc,h,hI,hG,hT,hn,hQ=>by
   have hk:ops[k]? = some o:=by
    have:ops.toList[k]? = some o:=by
     rw [← List.head?_drop,← hl]; rfl
    simpa using this
   have hlt:k < ops.size:=by rcases Array.getElem?_eq_some_iff.1 hk with ⟨h,_⟩; exact h
   have hl':l=ops.toList.drop (k+1):=by
    rw [← List.tail_drop,← hl]; rfl
   rw [show ops.size - k=(ops.size - (k+1))+1 by omega,List.range'_succ]
   simp only [wpOpsIn,hk]
   simp only [Di] at hc
   split at hc<;>try (cases hc; done)
   rename_i r hr
   split at hc<;>try (cases hc; done)
   rename_i hd
   have hd':J9 a.tmps.size o.dst=true:=by rw [hn]; exact hd
   obtain ⟨gd,hcl,hgd⟩:∃ gd,cl=⟨o.dst,(GR P gt pop o).getD .bad,gd⟩::r∧(match o.guard with
    | none=>gd=none
    | some (j,want)=>∃ oj d,ops[j]? = some oj∧oj.dst=some d∧d < a.tmps.size∧gd=some (d,want)):=by
    cases hg:o.guard with
    | none=>simp only [hg] at hc; cases hc; exact ⟨none,rfl,rfl⟩
    | some jw =>
      obtain ⟨j,want⟩:=jw
      simp only [hg] at hc
      split at hc<;>try (cases hc; done)
      rename_i oj hoj
      split at hc<;>try (cases hc; done)
      rename_i d hdst
      split at hc<;>try (cases hc; done)
      rename_i hdn
      cases hc
      exact ⟨_,rfl,oj,d,hoj,hdst,(by rw [hn]; exact hdn),rfl⟩
   subst hcl
   have hw:=JQ (o:=o) hT hgd
   simp only [EV] at h
   rw [hw]
   by_cases hwant:BE e gd=true
   · rw [if_pos hwant] at h ⊢
     split at h<;>try (cases h; done)
     rename_i v s1 hv
     cases hco:GR P gt pop o with
     | none=>rw [hco] at hv; simp [evOp] at hv
     | some aop =>
       rw [hco] at hv
       simp only [Option.getD_some] at hv
       refine QK (rd:=rd) hS hN hX hI hG hT hco hv _ Q ?_
       rintro u w1 ⟨g1,hI1,hL1,hV1,hE1⟩
       obtain ⟨p1,p2⟩:=GQ a o.dst u
       refine NA hS hN hX l (k+1) hl' hr h hI1 (hG.mono hL1) (KJ (DU hL1 hT) hd' hV1) (by rw [p1]; exact hn) ?_
       rintro a' w' ⟨q1,q2,g2,hI2,hL2,hT2,hE2⟩
       exact hQ a' w' ⟨by rw [q1,p1],by rw [q2,p2],g2,hI2,hL1.trans hL2,hT2,Esc.trans hL1.nb hE1 hE2⟩
   · rw [if_neg hwant] at h ⊢
     refine ⟨fun _ _=>trivial,?_⟩
     obtain ⟨p1,p2⟩:=GQ a o.dst Go.undef
     refine NA hS hN hX l (k+1) hl' hr h hI hG (KJ hT hd' (by simp [undef,Go.undef,V,VL])) (by rw [p1]; exact hn) ?_
     rintro a' w' ⟨q1,q2,q3⟩
     exact hQ a' w' ⟨by rw [q1,p1],by rw [q2,p2],q3⟩
end
end Go.Proofs.Ytfpoihibfajhlaa.Am

namespace Go.Proofs.Ytfpoihibfajhlaa.Am
section
variable {self:Self} {e e2:Tr} {s s1 s2:St} {v:AV}
theorem X.ev_congr {x:X} (h:∀ t∈x.tmps,e.get t=e2.get t):x.ev e=x.ev e2:=by
 cases x with
 | t n=>exact h n (by simp [X.tmps])
 | c v=>rfl
theorem B5:∀ {xs:List X},(∀ t∈Xs.tmps xs,e.get t=e2.get t)→evX e xs=evX e2 xs
 | [],_=>rfl
 | x::l,h=>by
   simp only [Xs.tmps,List.mem_append] at h
   simp only [evX]
   rw [X.ev_congr fun t ht=>h t (.inl ht),B5 fun t ht=>h t (.inr ht)]
theorem DT {x:Option X} (h:∀ t∈Xo.tmps x,e.get t=e2.get t):optX e x=optX e2 x:=by
 cases x with
 | none=>rfl
 | some x=>simp only [optX]; rw [X.ev_congr h]
theorem GX:∀ {ps:List (Nat×Nat×X)} {s:St} {l:List AV},(∀ t∈Xp.tmps ps,e.get t=e2.get t)→Cj e s ps l=Cj e2 s ps l
 | [],_,_,_=>rfl
 | (o, n,x)::ps,s,l,h=>by
   simp only [Xp.tmps,List.mem_append] at h
   simp only [Cj]
   rw [X.ev_congr fun t ht=>h t (.inl ht)]
   cases pub s (x.ev e2) with
   | none=>rfl
   | some r =>
     obtain ⟨a,s'⟩:=r
     simp only
     split
     · cases over l o a.cells with
       | none=>rfl
       | some l'=>exact GX fun t ht=>h t (.inr ht)
     · rfl
theorem F7 {op:AOp} (h:∀ t∈op.tmps,e.get t=e2.get t):evOp self e s op=evOp self e2 s op:=by
 cases op<;>simp only [AOp.tmps,List.mem_append] at h<;>simp only [evOp]
 case mv x=>rw [X.ev_congr h]
 case pick c a b=>rw [X.ev_congr fun t ht=>h t (.inl ht),X.ev_congr (x:=a) fun t ht=>h t (.inr (.inl ht)),X.ev_congr (x:=b) fun t ht=>h t (.inr (.inr ht))]
 case box T n x=>rw [X.ev_congr h]
 case adp T z n x=>rw [X.ev_congr h]
 case build z ps=>rw [GX h]
 case bsl es xs=>rw [B5 h]
 case ld ag n x=>rw [X.ev_congr h]
 case ldK ag n x=>rw [X.ev_congr h]
 case st n a w=>rw [X.ev_congr (x:=a) fun t ht=>h t (.inl ht),X.ev_congr (x:=w) fun t ht=>h t (.inr ht)]
 case nck x=>rw [X.ev_congr h]
 case bin o x y=>rw [X.ev_congr (x:=x) fun t ht=>h t (.inl ht),X.ev_congr (x:=y) fun t ht=>h t (.inr ht)]
 case eq k ng x y=>rw [X.ev_congr (x:=x) fun t ht=>h t (.inl ht),X.ev_congr (x:=y) fun t ht=>h t (.inr ht)]
 case un o x=>rw [X.ev_congr h]
 case cvI k x=>rw [X.ev_congr h]
 case cvId x=>rw [X.ev_congr h]
 case cvRS x=>rw [X.ev_congr h]
 case cvBS x=>rw [X.ev_congr h]
 case cvSB T x=>rw [X.ev_congr h]
 case cvU T n x=>rw [X.ev_congr h]
 case ud x=>rw [X.ev_congr h]
 case us T x n=>rw [X.ev_congr (x:=x) fun t ht=>h t (.inl ht),X.ev_congr (x:=n) fun t ht=>h t (.inr ht)]
 case cp0 es x y=>rw [X.ev_congr (x:=x) fun t ht=>h t (.inl ht),X.ev_congr (x:=y) fun t ht=>h t (.inr ht)]
 case apz es T z x y=>rw [X.ev_congr (x:=x) fun t ht=>h t (.inl ht),X.ev_congr (x:=y) fun t ht=>h t (.inr ht)]
 case ovl es x y=>rw [X.ev_congr (x:=x) fun t ht=>h t (.inl ht),X.ev_congr (x:=y) fun t ht=>h t (.inr ht)]
 case mnz T x=>rw [X.ev_congr h]
 case mki t x=>rw [X.ev_congr h]
 case mkf f xs=>rw [B5 h]
 case mkM nm x=>rw [X.ev_congr h]
 case nckM nm tab x=>rw [X.ev_congr h]
 case clr es z x=>rw [X.ev_congr h]
 case ins kk m k w=>rw [X.ev_congr (x:=m) fun t ht=>h t (.inl ht),X.ev_congr (x:=k) fun t ht=>h t (.inr (.inl ht)),X.ev_congr (x:=w) fun t ht=>h t (.inr (.inr ht))]
 case look kk z ok m k=>rw [X.ev_congr (x:=m) fun t ht=>h t (.inl ht),X.ev_congr (x:=k) fun t ht=>h t (.inr ht)]
 case slS x lo hi=>rw [X.ev_congr (x:=x) fun t ht=>h t (.inl ht),DT (x:=lo) fun t ht=>h t (.inr (.inl ht)),DT (x:=hi) fun t ht=>h t (.inr (.inr ht))]
 case slc pop es x lo hi mx=>rw [X.ev_congr (x:=x) fun t ht=>h t (.inl ht),DT (x:=lo) fun t ht=>h t (.inr (.inl ht)),DT (x:=hi) fun t ht=>h t (.inr (.inr (.inl ht))),DT (x:=mx) fun t ht=>h t (.inr (.inr (.inr ht)))]
 case slcA len es x lo hi=>rw [X.ev_congr (x:=x) fun t ht=>h t (.inl ht),DT (x:=lo) fun t ht=>h t (.inr (.inl ht)),DT (x:=hi) fun t ht=>h t (.inr (.inr ht))]
 case mks T es z n c=>rw [X.ev_congr (x:=n) fun t ht=>h t (.inl ht),X.ev_congr (x:=c) fun t ht=>h t (.inr ht)]
 case fa off x=>rw [X.ev_congr h]
 case fld ag off n x=>rw [X.ev_congr h]
 case ia es x i=>rw [X.ev_congr (x:=x) fun t ht=>h t (.inl ht),X.ev_congr (x:=i) fun t ht=>h t (.inr ht)]
 case iaA len es x i=>rw [X.ev_congr (x:=x) fun t ht=>h t (.inl ht),X.ev_congr (x:=i) fun t ht=>h t (.inr ht)]
 case ixS x i=>rw [X.ev_congr (x:=x) fun t ht=>h t (.inl ht),X.ev_congr (x:=i) fun t ht=>h t (.inr ht)]
 case ixA len es ag x i=>rw [X.ev_congr (x:=x) fun t ht=>h t (.inl ht),X.ev_congr (x:=i) fun t ht=>h t (.inr ht)]
 case tas t ok z x=>rw [X.ev_congr h]
 case tasI ts ok x=>rw [X.ev_congr h]
 case ext x n=>rw [X.ev_congr h]
 case call f xs=>rw [B5 h]
 case callK f xs=>rw [B5 h]
 case callQ b f xs=>rw [B5 h]
 case callI f xs=>rw [B5 h]
 case callX f xs=>rw [X.ev_congr (x:=f) fun t ht=>h t (.inl ht),B5 fun t ht=>h t (.inr ht)]
 case inv tab r xs=>rw [X.ev_congr (x:=r) fun t ht=>h t (.inl ht),B5 fun t ht=>h t (.inr ht)]
 case len k x=>rw [X.ev_congr h]
 case cap x=>rw [X.ev_congr h]
 case app es T x y=>rw [X.ev_congr (x:=x) fun t ht=>h t (.inl ht),X.ev_congr (x:=y) fun t ht=>h t (.inr ht)]
 case appQ es T x y=>rw [X.ev_congr (x:=x) fun t ht=>h t (.inl ht),X.ev_congr (x:=y) fun t ht=>h t (.inr ht)]
 case appB es T x y=>rw [X.ev_congr (x:=x) fun t ht=>h t (.inl ht),X.ev_congr (x:=y) fun t ht=>h t (.inr ht)]
 case mm mx x y=>rw [X.ev_congr (x:=x) fun t ht=>h t (.inl ht),X.ev_congr (x:=y) fun t ht=>h t (.inr ht)]
 case siter x=>rw [X.ev_congr h]
 case snext x=>rw [X.ev_congr h]
 case xtn r xs=>rw [B5 h]
theorem LP {op:AOp} (h:∀ t∈op.tmps,e.get t=e2.get t):BF e s op=BF e2 s op:=by
 cases op<;>simp only [AOp.tmps,List.mem_append] at h<;>simp only [BF]
 case build z ps =>
  have:∀ {l:List (Nat×Nat×X)},(∀ t∈Xp.tmps l,e.get t=e2.get t)→(l.all fun p=>noTok (p.2.2.ev e))=l.all fun p=>noTok (p.2.2.ev e2):=by
   intro l
   induction l with
   | nil=>intro _; rfl
   | cons p l ih =>
     obtain ⟨o,n,x⟩:=p
     intro h
     simp only [Xp.tmps,List.mem_append] at h
     simp only [List.all_cons]
     rw [X.ev_congr fun t ht=>h t (.inl ht),ih fun t ht=>h t (.inr ht)]
  exact this h
 case bsl es xs=>rw [B5 h]
 case ld ag n x=>rw [X.ev_congr h]
 case mki t x=>rw [X.ev_congr h]
 case mkf f xs=>rw [B5 h]
 case slc pop es x lo hi mx=>rw [X.ev_congr (x:=x) fun t ht=>h t (.inl ht)]
theorem EW {a:AV} (h:noTok a=true):pub s a=some (a,s):=by
 cases a<;>try rfl
 case sl es xs m=>cases m<;>first | rfl | simp [noTok] at h
 case ep l o m=>cases m<;>first | rfl | simp [noTok] at h
 case sd=>simp [noTok] at h
theorem Dz:∀ {l:List AV},l.all noTok=true→pubL s l=some (l,s)
 | [],_=>rfl
 | a::l,h=>by
   simp only [List.all_cons,Bool.and_eq_true] at h
   simp only [pubL,EW h.1,Dz h.2]
theorem GY:∀ {ps:List (Nat×Nat×X)} {l m:List AV} {s s1:St},(ps.all fun p=>noTok (p.2.2.ev e))=true→Cj e s ps l=some (m,s1)→s1=s∧∀ s2,Cj e s2 ps l=some (m,s2)
 | [],l,m,s,s1,_,h=>by simp only [Cj] at h; cases h; exact ⟨rfl,fun _=>rfl⟩
 | (o,n,x)::ps,l,m,s,s1,hq,h=>by
   simp only [List.all_cons,Bool.and_eq_true] at hq
   simp only [Cj,EW hq.1] at h
   split at h<;>try (cases h; done)
   rename_i hlen
   split at h<;>try (cases h; done)
   rename_i l' hov
   obtain ⟨h1,h2⟩:=GY hq.2 h
   refine ⟨h1,fun s2=>?_⟩
   simp only [Cj,EW hq.1]
   rw [if_pos hlen]
   simp only [hov]
   exact h2 s2
theorem F8 {o:Option AV} {r:AV×St} (h:ret1 s o=some r):r.2=s∧∀ s2,ret1 s2 o=some (r.1,s2):=by
 cases o with
 | none=>simp [ret1] at h
 | some x=>simp only [ret1] at h; cases h; exact ⟨rfl,fun _=>rfl⟩
theorem KM {pop:Bool} {es:Nat} {x:AV} {lo hi mx:Option AV} (hq:noTok x=true) (h:Br s pop es x lo hi mx=some (v,s1)):s1=s∧∀ s2,Br s2 pop es x lo hi mx=some (v,s2):=by
 have hp:=fun s=>EW (s:=s) hq
 cases x<;>try (simp only [Br] at h; cases h; done)
 case bl id e' off n y =>
  simp only [Br] at h ⊢
  split at h<;>try (cases h; done)
  rename_i l hh hb
  split at h
  · cases h
    exact ⟨rfl,fun s2=>by simp only [hb]⟩
  · split at h<;>try (cases h; done)
    rename_i c hc
    split at h<;>try (cases h; done)
    rename_i hcc
    cases h
    exact ⟨rfl,fun s2=>by simp only [hb,hc,if_pos hcc]⟩
 case wz =>
  simp only [Br] at h ⊢
  split at h<;>try (cases h; done)
  · cases h; exact ⟨rfl,fun _=>rfl⟩
  · split at h<;>try (cases h; done)
    cases h; exact ⟨rfl,fun _=>rfl⟩
 case nsl =>
  simp only [Br] at h ⊢
  split at h<;>try (cases h; done)
  · cases h; exact ⟨rfl,fun _=>rfl⟩
  · split at h<;>try (cases h; done)
    cases h; exact ⟨rfl,fun _=>rfl⟩
 case ws f e xs =>
  simp only [Br] at h ⊢
  split at h<;>try (cases h; done)
  rename_i l hh hb
  split at h
  · split at h<;>try (cases h; done)
    split at h<;>try (cases h; done)
    rename_i hc
    cases h
    exact ⟨rfl,fun s2=>by simp only [hb,if_pos hc]⟩
  · split at h
    · rename_i hc; cases h; exact ⟨rfl,fun s2=>by simp only [hb,if_pos hc]⟩
    · rename_i hc; cases h; exact ⟨rfl,fun s2=>by simp only [hb,if_neg hc]⟩
 case sl e xs m =>
  cases m with
  | tok k u=>simp [noTok] at hq
  | full =>
    simp only [Br] at h ⊢
    split at h<;>try (cases h; done)
    rename_i l hh hb
    split at h
    · split at h<;>try (cases h; done)
      split at h<;>try (cases h; done)
      rw [hp] at h
      cases h
      refine ⟨rfl,fun s2=>?_⟩
      rename_i hc
      simp only [hb,hp,if_pos hc]
    · split at h
      · rename_i hc; cases h; exact ⟨rfl,fun s2=>by simp only [hb,if_pos hc]⟩
      · rename_i hc
        split at h
        · rename_i hc2; cases h; exact ⟨rfl,fun s2=>by simp only [hb,if_neg hc,if_pos hc2]⟩
        · rename_i hc2; cases h; exact ⟨rfl,fun s2=>by simp only [hb,if_neg hc,if_neg hc2]⟩
  | shut =>
    simp only [Br] at h ⊢
    split at h<;>try (cases h; done)
    rename_i l hh hb
    split at h
    · split at h<;>try (cases h; done)
      split at h<;>try (cases h; done)
      rw [hp] at h
      cases h
      refine ⟨rfl,fun s2=>?_⟩
      rename_i hc
      simp only [hb,hp,if_pos hc]
    · split at h
      · rename_i hc; cases h; exact ⟨rfl,fun s2=>by simp only [hb,if_pos hc]⟩
      · rename_i hc; cases h; exact ⟨rfl,fun s2=>by simp only [hb,if_neg hc]⟩
theorem Mn {k:Nat} {x:AV} (hk:k≤1) (s2:St):lenA s k x=lenA s2 k x:=by
 unfold lenA
 split<;>first | rfl | omega
theorem D0 {op:AOp} (hc:op.cls≠2) (hq:BF e s op=true) (h:evOp self e s op=some (v,s1)):s1=s∧(op.cls=0→∀ s2,evOp self e s2 op=some (v,s2)):=by
 cases op<;>simp only [AOp.cls,ne_eq,not_true_eq_false] at hc<;>simp only [evOp] at h ⊢<;>simp only [BF] at hq
 case mv x=>cases h; exact ⟨rfl,fun _ _=>rfl⟩
 case pick c a b =>
  split at h<;>try (cases h; done)
  all_goals (cases h; exact ⟨rfl,fun _ _=>rfl⟩)
 case build z ps =>
  split at h<;>try (cases h; done)
  rename_i l s' hp
  cases h
  obtain ⟨h1,h2⟩:=GY hq hp
  exact ⟨h1,fun _ s2=>by rw [h2 s2]⟩
 case bsl es xs =>
  rw [Dz hq] at h
  simp only at h
  split at h<;>try (cases h; done)
  rename_i hcond
  cases h
  refine ⟨rfl,fun _ s2=>?_⟩
  rw [Dz hq]
  simp only [if_pos hcond]
 case ld ag n x =>
  refine ⟨?_,fun hh=>by simp [AOp.cls] at hh⟩
  split at h<;>try (cases h; done)
  · rename_i l hl
    rw [hl] at hq
    simp only at hq
    rw [Dz hq] at h
    cases h; rfl
  · cases h; rfl
 case nck x =>
  split at h<;>try (cases h; done)
  all_goals (cases h; exact ⟨rfl,fun _ _=>rfl⟩)
 case bin o x y=>have:=F8 h; exact ⟨this.1,fun _=>this.2⟩
 case eq k ng x y =>
  split at h<;>try (cases h; done)
  cases h; exact ⟨rfl,fun _ _=>rfl⟩
 case un o x=>have:=F8 h; exact ⟨this.1,fun _=>this.2⟩
 case cvI k x =>
  split at h<;>try (cases h; done)
  cases h; exact ⟨rfl,fun _ _=>rfl⟩
 case cvId x =>
  split at h<;>try (cases h; done)
  cases h; exact ⟨rfl,fun _ _=>rfl⟩
 case cvRS x =>
  split at h<;>try (cases h; done)
  cases h; exact ⟨rfl,fun _ _=>rfl⟩
 case cvBS x =>
  refine ⟨?_,fun hh=>by simp [AOp.cls] at hh⟩
  split at h<;>try (cases h; done)
  · cases h; rfl
  · cases h; rfl
  · split at h<;>try (cases h; done)
    split at h<;>try (cases h; done)
    cases h; rfl
  · split at h<;>try (cases h; done)
    cases h; rfl
  · split at h<;>try (cases h; done)
    split at h<;>try (cases h; done)
    split at h<;>try (cases h; done)
    cases h; rfl
 case cvU T n x =>
  refine ⟨?_,fun hh=>by simp [AOp.cls] at hh⟩
  split at h<;>try (cases h; done)
  split at h<;>try (cases h; done)
  split at h<;>try (cases h; done)
  cases h; rfl
 case ud x =>
  unfold udA at h ⊢
  split at h<;>try (cases h; done)
  all_goals (cases h; exact ⟨rfl,fun _ _=>rfl⟩)
 case mki t x =>
  rw [EW hq] at h
  cases h
  exact ⟨rfl,fun _ s2=>by rw [EW hq]⟩
 case mkf f xs =>
  rw [Dz hq] at h
  cases h
  exact ⟨rfl,fun _ s2=>by rw [Dz hq]⟩
 case mkM nm x =>
  split at h<;>try (cases h; done)
  cases h; exact ⟨rfl,fun _ _=>rfl⟩
 case nckM nm tab x =>
  split at h<;>try (cases h; done)
  split at h<;>try (cases h; done)
  rename_i hc
  cases h; exact ⟨rfl,fun _ s2=>by rw [if_pos hc]⟩
 case look kk z ok m k =>
  refine ⟨?_,fun hh=>by simp [AOp.cls] at hh⟩
  split at h<;>try (cases h; done)
  split at h<;>(cases h; try rfl)
 case slS x lo hi =>
  split at h<;>try (cases h; done)
  split at h<;>try (cases h; done)
  cases h; exact ⟨rfl,fun _ _=>rfl⟩
 case slc pop es x lo hi mx =>
  obtain ⟨h1,h2⟩:=KM hq h
  exact ⟨h1,fun _=>h2⟩
 case slcA len es x lo hi =>
  split at h<;>try (cases h; done)
  rename_i id off l hh hx hb
  cases h; exact ⟨rfl,fun _ s2=>by simp only [hx,hb]⟩
 case fa off x =>
  split at h<;>try (cases h; done)
  all_goals (cases h; exact ⟨rfl,fun _ _=>rfl⟩)
 case fld ag off n x =>
  split at h<;>try (cases h; done)
  split at h<;>try (cases h; done)
  have:=F8 h; exact ⟨this.1,fun _=>this.2⟩
 case ia es x i =>
  split at h<;>try (cases h; done)
  case h_3 =>
   split at h<;>try (cases h; done)
   rename_i hc
   cases h
   exact ⟨rfl,fun _ s2=>by rw [if_pos hc]⟩
  all_goals
   split at h<;>try (cases h; done)
   rename_i hc
   split at h<;>try (cases h; done)
   cases h
   exact ⟨rfl,fun _ s2=>by rw [if_pos hc]⟩
 case iaA len es x i =>
  split at h<;>try (cases h; done)
  split at h<;>try (cases h; done)
  rename_i hc
  split at h<;>try (cases h; done)
  all_goals (cases h; exact ⟨rfl,fun _ s2=>by rw [if_pos hc]⟩)
 case ixS x i =>
  split at h<;>try (cases h; done)
  split at h<;>try (cases h; done)
  cases h; exact ⟨rfl,fun _ _=>rfl⟩
 case ixA len es ag x i =>
  split at h<;>try (cases h; done)
  split at h<;>try (cases h; done)
  rename_i hc
  split at h<;>try (cases h; done)
  have:=F8 h
  exact ⟨this.1,fun _ s2=>by rw [if_pos hc]; exact this.2 s2⟩
 case tas t ok z x =>
  split at h<;>try (cases h; done)
  · split at h
    · rename_i hc; cases h; exact ⟨rfl,fun _ s2=>by rw [if_pos hc]⟩
    · rename_i hc
      split at h<;>try (cases h; done)
      rename_i hc2; cases h; exact ⟨rfl,fun _ s2=>by rw [if_neg hc,if_pos hc2]⟩
  · split at h<;>try (cases h; done)
    rename_i hc; cases h; exact ⟨rfl,fun _ s2=>by rw [if_pos hc]⟩
 case tasI ts ok x =>
  split at h<;>try (cases h; done)
  · split at h
    · rename_i hc; cases h; exact ⟨rfl,fun _ s2=>by rw [if_pos hc]⟩
    · rename_i hc
      split at h<;>try (cases h; done)
      rename_i hc2; cases h; exact ⟨rfl,fun _ s2=>by rw [if_neg hc,if_pos hc2]⟩
  · split at h<;>try (cases h; done)
    rename_i hc; cases h; exact ⟨rfl,fun _ s2=>by rw [if_pos hc]⟩
 case ext x n =>
  split at h<;>try (cases h; done)
  have:=F8 h; exact ⟨this.1,fun _=>this.2⟩
 case len k x =>
  have:=F8 h
  refine ⟨this.1,fun hh s2=>?_⟩
  have hk:k≤1:=by
   simp only [AOp.cls] at hh
   split at hh
   · rename_i h; rw [Nat.ble_eq] at h; exact h
   · cases hh
  rw [← Mn (s:=s) hk s2]
  exact this.2 s2
 case cap x =>
  split at h<;>try (cases h; done)
  case h_4 =>
   split at h<;>try (cases h; done)
   rename_i hc
   cases h; exact ⟨rfl,fun _ s2=>by rw [if_pos hc]⟩
  case h_5 =>
   split at h<;>try (cases h; done)
   rename_i hc
   cases h; exact ⟨rfl,fun _ s2=>by rw [if_pos hc]⟩
  all_goals (cases h; exact ⟨rfl,fun _ _=>rfl⟩)
 case mm mx x y =>
  split at h<;>try (cases h; done)
  cases h; exact ⟨rfl,fun _ _=>rfl⟩
end
end Go.Proofs.Ytfpoihibfajhlaa.Am

namespace Go.Proofs.Ytfpoihibfajhlaa.Am
section
variable {self:Self}
theorem Fs:∀ {cl:List Op} {e:Tr} {s:St} {tr:List (Tr×St)},BB self cl e s=some tr →
    ∃ (E:Nat→Tr) (S:Nat→St),E 0=e∧S 0=s∧(∀ i c,cl[i]? = some c→evD1 self c (E i) (S i)=some (E (i+1),S (i+1)))∧(∀ i,i≤cl.length→tr[i]? = some (E i,S i))∧FN tr=some (E cl.length,S cl.length)
 | [],e,s,tr,h=>by
   simp only [BB] at h; cases h
   refine ⟨fun _=>e,fun _=>s,rfl,rfl,fun i c hc=>by simp at hc,fun i hi=>?_,rfl⟩
   have h0:i=0:=by simpa using hi
   subst h0
   rfl
 | c :: l,e,s,tr,h=>by
   simp only [BB] at h
   split at h<;>try (cases h; done)
   rename_i e1 s1 h1
   split at h<;>try (cases h; done)
   rename_i r h2
   cases h
   obtain ⟨E,S,k1,k2,k3,k4,k5⟩:=Fs h2
   refine ⟨fun i=>match i with | 0=>e | i+1=>E i,fun i=>match i with | 0=>s | i+1=>S i,rfl,rfl,fun i d hd=>?_,fun i hi=>?_,?_⟩
   · cases i with
     | zero =>
       simp only [List.getElem?_cons_zero,Option.some.injEq] at hd
       subst hd
       simp only [k1,k2]; exact h1
     | succ i =>
       simp only [List.getElem?_cons_succ] at hd
       exact k3 i d hd
   · cases i with
     | zero=>rfl
     | succ i=>simp only [List.getElem?_cons_succ]; exact k4 i (by simpa using hi)
   · cases r with
     | nil=>have:=k4 0 (Nat.zero_le _); simp at this
     | cons x r=>simp only [FN,List.length_cons]; exact k5
/-! ### Values cell by cell -/
/-! ### What the look at the Ht says -/
def Rl (self:Self) (E:Nat→Tr) (S:Nat→St) (i lo hi:Nat) (c:Op):Prop :=
 BE (E i) c.guard=true→∀ v s',evOp self (E i) (S i) c.op=some (v,s')→∀ k,lo≤k→k≤hi→BF (E i) (S k) c.op=true∧∃ s'',evOp self (E i) (S k) c.op=some (v,s'')
theorem Hx {cl:List Op} {E:Nat→Tr} {S:Nat→St} {tr:List (Tr×St)} (ht:∀ i,i≤cl.length→tr[i]? = some (E i,S i)):∀ {wins:List (Nat×Nat×Nat)},(wins.all fun w=>Nat.ble w.2.1 w.1&&(Nat.ble w.1 w.2.2&&Nat.ble w.2.2 cl.length))=true →
    chkD self cl tr wins=true→∀ w∈wins,∀ c,cl[w.1]? = some c→Rl self E S w.1 w.2.1 w.2.2 c
 | [],_,_,w,hw,_,_=>by cases hw
 | (i, lo,hi)::l,hs,h,w,hw,c,hc=>by
   simp only [List.all_cons,Bool.and_eq_true] at hs
   simp only [chkD,Bool.and_eq_true] at h
   rcases List.mem_cons.1 hw with rfl | hw
   · obtain ⟨⟨s1,s2,s3⟩,_⟩:=hs
     have s3':=Nat.le_of_ble_eq_true s3
     have hi':i < cl.length:=(List.getElem?_eq_some_iff.1 hc).1
     obtain ⟨h,_⟩:=h
     simp only at hc
     rw [hc,ht i (by omega)] at h
     simp only [Bool.or_eq_true,Bool.not_eq_true'] at h
     intro hwt v s' hv k hk1 hk2
     simp only at hwt hv hk1 hk2 ⊢
     rcases h with h | h
     · rw [hwt] at h; cases h
     · rw [hv] at h
       simp only [List.all_eq_true] at h
       have:=h k (by rw [List.mem_range'_1]; omega)
       have s3'':hi≤cl.length:=s3'
       rw [ht k (by omega)] at this
       simp only [sameAt,Bool.and_eq_true] at this
       refine ⟨this.1,?_⟩
       have h2:=this.2
       split at h2<;>try (cases h2; done)
       rename_i v' s'' hv'
       rw [Hs _ _ h2]
       exact ⟨s'',hv'⟩
   · exact Hx ht hs.2 h.2 w hw c hc
theorem GZ:∀ {wins:List (Nat×Nat×Nat)} {i:Nat},winF wins i=(i,i)∨(i,winF wins i)∈wins
 | [],i=>.inl rfl
 | (j,lo,hi)::l,i=>by
   simp only [winF]
   split
   · rename_i h; have:=Nat.eq_of_beq_eq_true h; subst this; exact .inr (by simp)
   · exact (GZ (wins:=l) (i:=i)).imp id (fun h=>by simp [h])
/-! ### What the check says -/
theorem HS {pm:List Nat} {win:Nat→Nat×Nat} {i:Nat} {o:Op}:∀ {l:List Op} {j:Nat},JW pm win i o j l=true→∀ k p,l[k]? = some p→ET o p=true∧GS pm win i (j+k) o p=true
 | [],_,_,k,p,hk=>by simp at hk
 | q :: l,j,h,k,p,hk=>by
   simp only [JW,Bool.and_eq_true] at h
   cases k with
   | zero=>simp only [List.getElem?_cons_zero,Option.some.injEq] at hk; subst hk; exact h.1
   | succ k =>
     simp only [List.getElem?_cons_succ] at hk
     have:=HS h.2 k p hk
     rw [show j+(k+1)=j+1+k by omega]; exact this
theorem Ft {pm:List Nat} {win:Nat→Nat×Nat}:∀ {l:List Op} {b:Nat},JX pm win b l=true→∀ i j o p,i < j→l[i]? = some o→l[j]? = some p→ET o p=true∧GS pm win (b+i) (b+j) o p=true
 | [],_,_,i,j,o,p,_,hi,_=>by simp at hi
 | q :: l,b,h,i,j,o,p,hij,hi,hj=>by
   simp only [JX,Bool.and_eq_true] at h
   cases j with
   | zero=>omega
   | succ j =>
     simp only [List.getElem?_cons_succ] at hj
     cases i with
     | zero =>
       simp only [List.getElem?_cons_zero,Option.some.injEq] at hi
       subst hi
       have:=HS h.1 j p hj
       rw [show b+0=b by omega,show b+(j+1)=b+1+j by omega]; exact this
     | succ i =>
       simp only [List.getElem?_cons_succ] at hi
       have:=Ft h.2 i j o p (by omega) hi hj
       rw [show b+(i+1)=b+1+i by omega,show b+(j+1)=b+1+j by omega]; exact this
theorem EO:∀ {l:List Oper} {b:Nat},Dd b l=true→∀ i o,l[i]? = some o→∀ ed∈o.after.toList,Region.binds .any ed=true→ed.on < b+i
 | [],_,_,i,o,hi=>by simp at hi
 | q :: l,b,h,i,o,hi=>by
   simp only [Dd,Bool.and_eq_true,List.all_eq_true] at h
   cases i with
   | zero =>
     simp only [List.getElem?_cons_zero,Option.some.injEq] at hi
     subst hi
     intro ed hed hb
     have:=h.1 ed hed
     rw [hb] at this
     simp only [Bool.not_true,Bool.false_or,Nat.blt_eq] at this
     exact this
   | succ i =>
     simp only [List.getElem?_cons_succ] at hi
     intro ed hed hb
     have:=EO h.2 i o hi ed hed hb
     omega
theorem HT:∀ (l:List Oper) (acc:List Nat),(Aw l acc).length=acc.length+l.length∧(∀ i,i < acc.length→(Aw l acc)[i]? = acc[i]?) ∧
    ∀ i o,l[i]? = some o→(Aw l acc)[acc.length+i]? = some (Aw.predOf ((Aw l acc).take (acc.length+i)) o.after.toList)
 | [],acc=>by simp [Aw]
 | q :: l,acc=>by
   obtain ⟨h1,h2,h3⟩:=HT l (acc++[Aw.predOf acc q.after.toList])
   simp only [List.length_append,List.length_cons,List.length_nil,Nat.zero_add] at h1 h2 h3
   simp only [Aw]
   have htake:(Aw l (acc++[Aw.predOf acc q.after.toList])).take acc.length=acc:=by
    apply List.ext_getElem?
    intro i
    rw [List.getElem?_take]
    split
    · rename_i hi
      rw [h2 i (by omega),List.getElem?_append_left hi]
    · rename_i hi; rw [List.getElem?_eq_none (by omega)]
   refine ⟨by rw [h1]; simp only [List.length_cons]; omega,fun i hi=>by rw [h2 i (by omega),List.getElem?_append_left hi],fun i o hi=>?_⟩
   cases i with
   | zero =>
     simp only [List.getElem?_cons_zero,Option.some.injEq] at hi
     subst hi
     rw [Nat.add_zero,htake,h2 acc.length (by omega)]
     simp
   | succ i =>
     simp only [List.getElem?_cons_succ] at hi
     have:=h3 i o hi
     rw [show acc.length+(i+1)=acc.length+1+i by omega]; exact this
theorem GK {acc:List Nat} {j:Nat}:∀ {l:List Edge},(Aw.predOf acc l).testBit j=true→∃ ed∈l,Region.binds .any ed=true∧(ed.on=j∨(acc.getD ed.on 0).testBit j=true)
 | [],h=>by simp [Aw.predOf] at h
 | ed::l,h=>by
   simp only [Aw.predOf] at h
   split at h
   · rename_i hb
     rw [Nat.testBit_or,Nat.testBit_or,Bool.or_eq_true,Bool.or_eq_true] at h
     rcases h with (h | h) | h
     · refine ⟨ed,by simp,hb,.inl ?_⟩
       rw [Nat.testBit_two_pow] at h
       simpa using h
     · exact ⟨ed,by simp,hb,.inr h⟩
     · obtain ⟨ed',h1,h2⟩:=GK h
       exact ⟨ed',by simp [h1],h2⟩
   · obtain ⟨ed',h1,h2⟩:=GK h
     exact ⟨ed',by simp [h1],h2⟩
theorem EY {ops:Array Oper} (hb:Dd 0 ops.toList=true) {L:Nat→Prop} (hL:∀ j,L j→∀ o,ops[j]? = some o→∀ ed∈o.after.toList,Region.binds .any ed=true→L ed.on) :
    ∀ (i:Nat) (o:Oper),ops[i]? = some o→(∀ ed∈o.after.toList,Region.binds .any ed=true→L ed.on)→∀ j,((Aw ops.toList []).getD i 0).testBit j=true→L j:=by
 intro i
 induction i using Nat.strongRecOn with
 | _ i ih =>
   intro o ho hed j hj
   obtain ⟨h1,h2,h3⟩:=HT ops.toList []
   simp only [List.length_nil,Nat.zero_add] at h1 h2 h3
   have ho':ops.toList[i]? = some o:=by simpa using ho
   have:=h3 i o ho'
   rw [List.getD_eq_getElem?_getD,this,Option.getD_some] at hj
   obtain ⟨ed,hm,hbd,hor⟩:=GK hj
   have hLon:=hed ed hm hbd
   rcases hor with rfl | hbit
   · exact hLon
   · have hlt:ed.on < i:=by have:=EO hb i o ho' ed hm hbd; omega
     have hsz:ed.on < ops.size:=by
      have:=(Array.getElem?_eq_some_iff.1 ho).1
      omega
     rw [List.getD_eq_getElem?_getD,List.getElem?_take,if_pos hlt,← List.getD_eq_getElem?_getD] at hbit
     exact ih ed.on hlt ops[ed.on] (Array.getElem?_eq_getElem hsz) (fun ed' hm' hb'=>hL ed.on hLon _ (Array.getElem?_eq_getElem hsz) ed' hm' hb') j hbit
end
end Go.Proofs.Ytfpoihibfajhlaa.Am

namespace Go.Proofs.Ytfpoihibfajhlaa.Am
section
variable {self:Self} {cl:List Op} {E:Nat→Tr} {S:Nat→St} {pm:List Nat} {win:Nat→Nat×Nat} {L:Nat→Prop} {eL:Tr} {sL:St}
structure Canon (sf:Self) (cl:List Op) (E:Nat→Tr) (S:Nat→St) (pm:List Nat) (win:Nat→Nat×Nat):Prop where
 step:∀ i c,cl[i]? = some c→evD1 sf c (E i) (S i)=some (E (i+1),S (i+1))
 small:∀ (i:Nat) (c:Op) (d:Nat),cl[i]? = some c→c.dst=some d→d+1 < 1024
 pair:∀ i j o p,i < j→cl[i]? = some o→cl[j]? = some p→ET o p=true∧GS pm win i j o p=true
 wok:∀ i c,cl[i]? = some c→c.op.cls=1→Rl sf E S i (win i).1 (win i).2 c
 wsane:∀ i,i < cl.length→(win i).1≤i∧i≤(win i).2∧(win i).2≤cl.length
theorem HA {e:Tr} {d:Option Nat} {v:AV} (h:∀ x,d=some x→x+1 < 1024) (t:Nat):(put e d v).get t=if d=some t then v else e.get t:=by
 cases d with
 | none=>simp [put]
 | some x =>
   simp only [put]
   rw [D5 10 e x v (by have:=h x rfl; omega)]
   by_cases hx:t=x
   · subst hx; simp
   · rw [if_neg hx,if_neg (by intro hh; cases hh; exact hx rfl)]
theorem D1 {c:Op} {e e1:Tr} {s s1:St} (h:evD1 self c e s=some (e1,s1)) :
    (BE e c.guard=true∧(c.op.cls=2∨BF e s c.op=true)∧∃ v,evOp self e s c.op=some (v,s1)∧e1=put e c.dst v)∨(BE e c.guard=false∧e1=put e c.dst undef∧s1=s):=by
 unfold evD1 at h
 split at h
 · rename_i hw
   split at h<;>try (cases h; done)
   rename_i hq
   split at h<;>try (cases h; done)
   rename_i v s2 hv
   cases h
   refine .inl ⟨hw,?_,v,hv,rfl⟩
   rw [Bool.or_eq_true] at hq
   exact hq.imp Nat.eq_of_beq_eq_true id
 · rename_i hw
   cases h
   exact .inr ⟨by simpa using hw,rfl,rfl⟩
theorem Canon.next (h:Canon self cl E S pm win) {i:Nat} {c:Op} (hc:cl[i]? = some c):∃ v,E (i+1)=put (E i) c.dst v∧(c.op.cls≠2→S (i+1)=S i):=by
 rcases D1 (h.step i c hc) with ⟨_,hq,v,hv,he⟩ | ⟨_,he,hs⟩
 · refine ⟨v,he,fun hn=>?_⟩
   rcases hq with hq | hq
   · exact absurd hq hn
   · exact (D0 hn hq hv).1
 · exact ⟨_,he,fun _=>hs⟩
theorem Canon.get (h:Canon self cl E S pm win) {i t:Nat} {c:Op} (hc:cl[i]? = some c) (ht:c.dst≠some t):(E (i+1)).get t=(E i).get t:=by
 obtain ⟨v,he,_⟩:=h.next hc
 rw [he,HA (h.small i c · hc),if_neg ht]
theorem Canon.unique (h:Canon self cl E S pm win) {i j t:Nat} {c d:Op} (hc:cl[i]? = some c) (hd:cl[j]? = some d) (h1:c.dst=some t) (h2:d.dst=some t):i=j:=by
 rcases Nat.lt_trichotomy i j with hlt | rfl | hlt
 · have:=(h.pair i j c d hlt hc hd).1
   simp [ET,h1,h2] at this
 · rfl
 · have:=(h.pair j i d c hlt hd hc).1
   simp [ET,h1,h2] at this
theorem Canon.same (h : Canon self cl E S pm win) {t a:Nat}:∀ {b:Nat},a≤b→b≤cl.length→(∀ j c,a≤j→j < b→cl[j]? = some c→c.dst≠some t)→(E b).get t=(E a).get t
 | 0, hab, _, _ => by have:a=0:=by omega
                      subst this; rfl
 | b + 1,hab,hb,hn=>by
   by_cases he:a=b+1
   · subst he; rfl
   · have hlt:b < cl.length:=by omega
     rw [h.get (List.getElem?_eq_getElem hlt) (hn b _ (by omega) (by omega) (List.getElem?_eq_getElem hlt))]
     exact h.same (by omega) (by omega) fun j c h1 h2=>hn j c h1 (by omega)
theorem Canon.state (h:Canon self cl E S pm win) {a:Nat}:∀ {b:Nat},a≤b→b≤cl.length→(∀ j c,a≤j→j < b→cl[j]? = some c→c.op.cls≠2)→S b=S a
 | 0, hab, _, _ => by have:a=0:=by omega
                      subst this; rfl
 | b + 1,hab,hb,hn=>by
   by_cases he:a=b+1
   · subst he; rfl
   · have hlt:b < cl.length:=by omega
     obtain ⟨v,_,hs⟩:=h.next (List.getElem?_eq_getElem hlt)
     rw [hs (hn b _ (by omega) (by omega) (List.getElem?_eq_getElem hlt))]
     exact h.state (by omega) (by omega) fun j c h1 h2=>hn j c h1 (by omega)
theorem Canon.written (h:Canon self cl E S pm win) {j k t:Nat} {c:Op} (hc:cl[j]? = some c) (ht:c.dst=some t) (hj:j < k) (hk:k≤cl.length):(E k).get t=(E cl.length).get t:=by
 refine (h.same (b:=cl.length) hk (Nat.le_refl _) fun m d h1 _ hd hdt=>?_).symm
 have:=h.unique hc hd ht hdt
 omega
structure Mid (cl:List Op) (E:Nat→Tr) (S:Nat→St) (L:Nat→Prop) (eL:Tr) (sL:St):Prop where
 done:∀ t j c,L j→cl[j]? = some c→c.dst=some t→eL.get t=(E cl.length).get t
 rest:∀ t,(∀ j c,L j→cl[j]? = some c→c.dst≠some t)→eL.get t=(E 0).get t
 state:∀ k,k≤cl.length→(∀ h c,cl[h]? = some c→c.op.cls=2→(h < k↔L h))→sL=S k
theorem EZ {i j:Nat} (h:i < j):JV pm i j=(pm.getD j 0).testBit i:=by
 unfold JV
 rw [if_pos (by rw [Nat.blt_eq]; exact h)]
theorem Mid.reads (h:Canon self cl E S pm win) (m:Mid cl E S L eL sL) {i:Nat} {c:Op} (hc:cl[i]? = some c) (hnot:¬ L i) (hpre:∀ j,(pm.getD i 0).testBit j=true→L j) (hpost:∀ j,L j→(pm.getD j 0).testBit i=true→False) :
    ∀ t∈c.reads,eL.get t=(E i).get t:=by
 intro t ht
 have hilt:i < cl.length:=(List.getElem?_eq_some_iff.1 hc).1
 by_cases hw:∃ (j:Nat) (d:Op),cl[j]? = some d∧d.dst=some t
 · obtain ⟨j,d,hd,hdt⟩:=hw
   have huniq:∀ (j':Nat) (d':Op),cl[j']? = some d'→d'.dst=some t→j'=j:=fun j' d' hd' hdt'=>h.unique hd' hd hdt' hdt
   rcases Nat.lt_trichotomy j i with hlt | rfl | hlt
   · have hap:=(h.pair j i d c hlt hd hc).2
     have hLj:L j:=by
      unfold GS at hap
      rw [EZ hlt,Bool.or_eq_true] at hap
      rcases hap with hap | hap
      · exact hpre j hap
      · simp only [Bool.and_eq_true,hdt] at hap
        have:=hap.2.2.1
        rw [List.contains_iff_mem.2 ht] at this
        simp at this
     rw [m.done t j d hLj hd hdt,h.written hd hdt hlt (by omega)]
   · rw [m.rest t fun j' d' hL' hd' hdt'=>by have:=huniq j' d' hd' hdt'; subst this; exact hnot hL']
     exact (h.same (Nat.zero_le _) (by omega) fun j' d' _ hlt hd' hdt'=>by have:=huniq j' d' hd' hdt'; omega).symm
   · have hap:=(h.pair i j c d hlt hc hd).2
     have hLj:¬ L j:=fun hLj=>by
      unfold GS at hap
      rw [EZ hlt,Bool.or_eq_true] at hap
      rcases hap with hap | hap
      · exact hpost j hLj hap
      · simp only [Bool.and_eq_true,hdt] at hap
        have:=hap.2.2.2
        rw [List.contains_iff_mem.2 ht] at this
        simp at this
     rw [m.rest t fun j' d' hL' hd' hdt'=>by have:=huniq j' d' hd' hdt'; subst this; exact hLj hL']
     exact (h.same (Nat.zero_le _) (by omega) fun j' d' _ hlt' hd' hdt'=>by have:=huniq j' d' hd' hdt'; omega).symm
 · have hno:∀ (j:Nat) (d:Op),cl[j]? = some d→d.dst≠some t:=fun j d hd hdt=>hw ⟨j,d,hd,hdt⟩
   rw [m.rest t fun j d _ hd=>hno j d hd]
   exact (h.same (Nat.zero_le _) (by omega) fun j d _ _ hd=>hno j d hd).symm
theorem BH (h:Canon self cl E S pm win) {i j:Nat} {c d:Op} (hlt:i < j) (hc:cl[i]? = some c) (hd:cl[j]? = some d) (hc2:c.op.cls=2) (hd2:d.op.cls=2):(pm.getD j 0).testBit i=true:=by
 have hap:=(h.pair i j c d hlt hc hd).2
 unfold GS at hap
 rw [EZ hlt,Bool.or_eq_true] at hap
 rcases hap with hap | hap
 · exact hap
 · simp [hc2,hd2] at hap
theorem Mid.at2 (h:Canon self cl E S pm win) (m:Mid cl E S L eL sL) {i:Nat} {c:Op} (hc:cl[i]? = some c) (hs:c.op.cls=2) (hnot:¬ L i) (hpre:∀ j,(pm.getD i 0).testBit j=true→L j) (hpost:∀ j,L j→(pm.getD j 0).testBit i=true→False) :
    sL=S i:=by
 have hilt:i < cl.length:=(List.getElem?_eq_some_iff.1 hc).1
 refine m.state i (by omega) fun j d hd hj=>?_
 rcases Nat.lt_trichotomy j i with hlt | rfl | hlt
 · exact ⟨fun _=>hpre j (BH h hlt hd hc hj hs),fun _=>hlt⟩
 · exact ⟨fun hh=>absurd hh (Nat.lt_irrefl _),fun hh=>absurd hh hnot⟩
 · exact ⟨fun hh=>by omega,fun hL=>(hpost j hL (BH h hlt hc hd hs hj)).elim⟩
theorem Mid.at1 (h:Canon self cl E S pm win) (m:Mid cl E S L eL sL) (hclo:∀ i j,L j→(pm.getD j 0).testBit i=true→L i) {i:Nat} {c:Op} (hc:cl[i]? = some c) (hs:c.op.cls=1)
    (hpre:∀ j,(pm.getD i 0).testBit j=true→L j) (hpost:∀ j,L j→(pm.getD j 0).testBit i=true→False) :
    ∃ k,(win i).1≤k∧k≤(win i).2∧sL=S k:=by
 have hilt:i < cl.length:=(List.getElem?_eq_some_iff.1 hc).1
 obtain ⟨w1,w2,w3⟩:=h.wsane i hilt
 have hex:∀ n,(win i).1≤n→n≤cl.length→(∀ j d,n≤j→cl[j]? = some d→d.op.cls=2→¬ L j)→∃ k,(win i).1≤k∧k≤n∧(∀ j d,k≤j→cl[j]? = some d→d.op.cls=2→¬ L j)∧(k=(win i).1∨∃ d,1≤k∧cl[k - 1]? = some d∧d.op.cls=2∧L (k - 1)):=by
  intro n
  induction n with
  | zero=>intro h1 _ h3; exact ⟨0,h1,Nat.le_refl _,h3,.inl (by omega)⟩
  | succ n ih =>
    intro h1 h2 h3
    by_cases he:n+1=(win i).1
    · exact ⟨n+1,h1,Nat.le_refl _,h3,.inl he⟩
    · by_cases hn:∃ d,cl[n]? = some d∧d.op.cls=2∧L n
      · obtain ⟨d,hd,hd2,hL⟩:=hn
        exact ⟨n+1,h1,Nat.le_refl _,h3,.inr ⟨d,by omega,hd,hd2,hL⟩⟩
      · obtain ⟨k,k1,k2,k3,k4⟩:=ih (by omega) (by omega) (fun j d hj hd hd2 hL=>by
         by_cases hjn:j=n
         · subst hjn; exact hn ⟨d,hd,hd2,hL⟩
         · exact h3 j d (by omega) hd hd2 hL)
        exact ⟨k,k1,by omega,k3,k4⟩
 obtain ⟨k,k1,k2,k3,k4⟩:=hex (win i).2 (by omega) w3 (fun j d hj hd hd2 hL=>by
  have hne:i≠j:=by rintro rfl; rw [hc] at hd; cases hd; omega
  have hlt:i < j:=by omega
  have hap:=(h.pair i j c d hlt hc hd).2
  unfold GS at hap
  rw [EZ hlt,Bool.or_eq_true] at hap
  rcases hap with hap | hap
  · exact hpost j hL hap
  · simp only [Bool.and_eq_true,Bool.or_eq_true] at hap
    have:=hap.2.1
    rcases this with this | this
    · simp [hd2,hs] at this
    · have h2:=this.2
      rw [Nat.blt_eq] at h2
      omega)
 refine ⟨k,k1,k2,m.state k (by omega) fun j d hd hd2=>⟨fun hjk=>?_,fun hL=>?_⟩⟩
 · -- done
   have before:j < (win i).1→L j:=fun hj=>by
    have hlt:j < i:=by omega
    have hap:=(h.pair j i d c hlt hd hc).2
    unfold GS at hap
    rw [EZ hlt,Bool.or_eq_true] at hap
    rcases hap with hap | hap
    · exact hpre j hap
    · simp only [Bool.and_eq_true,Bool.or_eq_true] at hap
      have:=hap.1
      rcases this with this | this
      · simp [hd2,hs] at this
      · have h2:=this.2
        have:=Nat.le_of_ble_eq_true h2
        omega
   rcases k4 with k4 | ⟨d',k0,hd',hd2',hL'⟩
   · exact before (by omega)
   · by_cases hj:j=k - 1
     · subst hj; exact hL'
     · exact hclo j (k - 1) hL' (BH h (by omega) hd hd' hd2 hd2')
 · -- not later
   by_cases hjk:j < k
   · exact hjk
   · exact absurd hL (k3 j d (by omega) hd hd2)
theorem Mid.put (h:Canon self cl E S pm win) (m:Mid cl E S L eL sL) {i:Nat} {c:Op} (hc:cl[i]? = some c) (hnot:¬ L i) {v:AV} (hv:E (i+1)=put (E i) c.dst v) {s2:St}
    (h0:c.op.cls≠2→s2=sL) (h2:c.op.cls=2→s2=S (i+1)∧∀ j d,cl[j]? = some d→d.op.cls=2→j≠i→(j < i↔L j)):Mid cl E S (fun j=>L j∨j=i) (put eL c.dst v) s2:=by
 have hilt:i < cl.length:=(List.getElem?_eq_some_iff.1 hc).1
 refine ⟨fun t j d hL hd hdt=>?_,fun t hn=>?_,fun k hk hh=>?_⟩
 · rw [HA (h.small i c · hc)]
   by_cases hct:c.dst=some t
   · rw [if_pos hct]
     have:=h.written hc hct (Nat.lt_succ_self i) (by omega)
     rw [← this,hv,HA (h.small i c · hc),if_pos hct]
   · rw [if_neg hct]
     rcases hL with hL | rfl
     · exact m.done t j d hL hd hdt
     · rw [hc] at hd; cases hd; exact absurd hdt hct
 · have hct:c.dst≠some t:=hn i c (.inr rfl) hc
   rw [HA (h.small i c · hc),if_neg hct]
   exact m.rest t fun j d hL=>hn j d (.inl hL)
 · by_cases hcls:c.op.cls=2
   · obtain ⟨hs2,hord⟩:=h2 hcls
     rw [hs2]
     have hik:i < k:=(hh i c hc hcls).2 (.inr rfl)
     refine (h.state (a:=i+1) (by omega) hk fun j d h1 h2' hd hj=>?_).symm
     have hne:j≠i:=by omega
     have hLj:L j:=by
      rcases (hh j d hd hj).1 h2' with h | h
      · exact h
      · exact absurd h hne
     have:=(hord j d hd hj hne).2 hLj
     omega
   · rw [h0 hcls]
     refine m.state k hk fun j d hd hj=>?_
     rw [hh j d hd hj]
     refine ⟨fun hor=>?_,.inl⟩
     rcases hor with hL | rfl
     · exact hL
     · rw [hc] at hd; cases hd; exact absurd hj hcls
end
end Go.Proofs.Ytfpoihibfajhlaa.Am
