/- Part 2 of the proof of Rows.AutoTwoUptoCardSaid (the conditions: those of the given row alone). Laid by program (pack.py) out of the texts in wip/, remarks left out. -/
import Derived.Test.YtnaccglcbfeenaaGreatDoorT1
import Derived.Laws.IdiomStrings
import Derived.Laws.AppendOwn
import Derived.Laws.BytesString
import Derived.Laws.Cover4
import Derived.Orders
import Derived.KernelRfl
set_option linter.unusedSimpArgs false
set_option linter.unusedVariables false
set_option maxHeartbeats 1000000
namespace Go.Ab
variable {P:Program} {G:List Nat}
section
variable {ρ:Rho} {h:AHeap} {w:World}
variable {T:PT AVal} {a:Act} {nt:Nat}
theorem st_len (sm:Sim P G ρ h w) (hT:TRel ρ T a.tmps) {k:LenK} {t ty:TypeId} {x:Operand}
  (hk:match k with
   | .str=>P.underlying t=some .string
   | .const n=>(∃ e,P.underlying t=some (.array n e))\/∃ b e,P.underlying t=some (.pointer b)/\P.underlying b=some (.array n e)
   | .row=>∃ e,P.underlying t=some (.slice e)
   | .map=>∃ kt e,P.underlying t=some (.map kt e)) {v:Option AVal} {h':AHeap}
  (hr:retO h (ob ((cOpd G nt x).get T) fun p=>lenA k p h)=some (v,h')):OutOk P G (vS (Builtin.len_ #[t] ty #[a.eval x])) ρ h w v h':=by
 simp only [retO_eq,ob_eq,Prod.mk.injEq] at hr
 obtain ⟨z,⟨p,hp,hz⟩,rfl,rfl⟩:=hr
 have rp:=opd_rel sm hT hp
 cases k with
 | str =>
  have hz':onStr p (fun s=>some (.int .i64 (Int.ofNat s.length)))=some z:=hz
  simp only [onStr_eq,Option.some.injEq] at hz'
  obtain ⟨s,rfl,rfl⟩:=hz'
  obtain ⟨S,e,hS⟩:=rp
  have hk:P.underlying t=some .string:=hk
  have hsz:S.size=s.length:=by rw [<-hS];simp
  refine OutOk.same sm (V:=goInt s.length) ?_ (by simp [VRel,goInt])
  rw [e]
  simp [Builtin.len_,run_underlying hk,hsz]
 | const n =>
  have hz':some (AVal.int .i64 (Int.ofNat n))=some z:=hz
  cases hz'
  refine OutOk.same sm (V:=goInt n) ?_ (by simp [VRel,goInt])
  rcases hk with ⟨e,hk⟩ | ⟨b,e,hk,hb⟩
  ·simp [Builtin.len_,run_underlying hk]
  ·simp [Builtin.len_,run_underlying hk,run_underlying hb]
 | row =>
  obtain ⟨e,hk⟩:=hk
  have hz':onRow p (some (.int .i64 0)) (fun _ _ n _ _=>some (.int .i64 (Int.ofNat n)))=some z:=hz
  simp only [onRow_eq,Option.some.injEq] at hz'
  rcases hz' with ⟨rfl,rfl⟩ | ⟨b,o,l,c,z',rfl,rfl⟩
  ·simp only [VRel] at rp
   refine OutOk.same sm (V:=goInt 0) ?_ (by simp [VRel,goInt])
   rw [rp];simp [Builtin.len_,run_underlying hk]
  ·obtain ⟨L,A,C,_,e1,_⟩:=rp
   refine OutOk.same sm (V:=goInt l) ?_ (by simp [VRel,goInt])
   rw [e1];simp [Builtin.len_,run_underlying hk]
 | map =>
  obtain ⟨kt,e,hk⟩:=hk
  have hz':onMapV p (some (.int .i64 0)) (fun b=>ob (AHeap.get _ b) fun y=>onEntries y fun _ es _=>some (.int .i64 (Int.ofNat es.length)))=some z:=hz
  simp only [onMapV_eq,ob_eq,onEntries_eq,Option.some.injEq] at hz'
  rcases hz' with ⟨rfl,rfl⟩ | ⟨b,rfl,y,hy,kt',es,c,rfl,rfl⟩
  ·simp only [VRel] at rp
   refine OutOk.same sm (V:=goInt 0) ?_ (by simp [VRel,goInt])
   rw [rp];simp [Builtin.len_,run_underlying hk]
  ·obtain ⟨L,hL,e1⟩:=rp
   obtain ⟨L',hL',h0,_,ES,g1,g2⟩:=sm.blk _ _ hy
   rw [hL] at hL';cases hL'
   refine OutOk.same sm (V:=goInt es.length) ?_ (by simp [VRel,goInt])
   rw [e1]
   simp [Builtin.len_,run_underlying hk,getObj_run g1 rfl,g2.length]
theorem st_minmax (sm:Sim P G ρ h w) (hT:TRel ρ T a.tmps) {less:Bool} {ts:Array TypeId} {ty:TypeId} {x y:Operand} {v:Option AVal} {h':AHeap}
  (hr:retO h (ob ((cOpd G nt x).get T) fun a=>ob ((cOpd G nt y).get T) fun b=>onInt a fun k m=>onInt b fun k' n=>bi (sameK k k') (some (.int k (bi less (bi (ltI n m) n m) (bi (ltI m n) n m)))) none)=some (v,h')) :
  OutOk P G (vS (if less then Builtin.min_ ts ty #[a.eval x,a.eval y] else Builtin.max_ ts ty #[a.eval x,a.eval y])) ρ h w v h':=by
 simp only [retO_eq,ob_eq,onInt_eq,bi_some,Option.some.injEq,Prod.mk.injEq] at hr
 obtain ⟨z,⟨p,hp,q,hq,k,m,rfl,k',n,rfl,hk,rfl⟩,rfl,rfl⟩:=hr
 have:=sameK_iff hk
 subst this
 have rp:=opd_rel sm hT hp
 have rq:=opd_rel sm hT hq
 simp only [VRel] at rp rq
 rw [rp,rq]
 cases less with
 | true =>
  refine OutOk.same sm (V:=.int k (if n < m then n else m)) (by simp [Builtin.min_,Builtin.min2]) ?_
  rw [show bi true (bi (ltI n m) n m) (bi (ltI m n) n m)=if n < m then n else m by rw [bi_true,bi_eq,ltI_iff];simp]
  simp [VRel]
 | false =>
  refine OutOk.same sm (V:=.int k (if n > m then n else m)) (by simp [Builtin.max_,Builtin.max2]) ?_
  rw [show bi false (bi (ltI n m) n m) (bi (ltI m n) n m)=if n > m then n else m by rw [bi_false,bi_eq,ltI_iff];simp]
  simp [VRel]
theorem st_makeFunc (sm:Sim P G ρ h w) (hT:TRel ρ T a.tmps) {f:FuncId} {first caps:Array Operand} {v:Option AVal} {h':AHeap}
  (hr:(ob (getAll T (first.toList.map (cOpd G nt))) fun a=>ob (getAll T (caps.toList.map (cOpd G nt))) fun c=>ret h (.func f a c))=some (v,h')) :
  OutOk P G (vS (Instr.makeFunc (.func f) (first.map a.eval) (caps.map a.eval))) ρ h w v h':=by
 simp only [ret_eq,ob_eq,Prod.mk.injEq] at hr
 obtain ⟨p,hp,q,hq,rfl,rfl⟩:=hr
 refine OutOk.same sm (V:=.func (.func f) (first.map a.eval) (caps.map a.eval)) rfl ⟨first.toList.map a.eval,caps.toList.map a.eval,?_,getAll_rel sm hT hp,getAll_rel sm hT hq⟩
 congr 1<;>(apply Array.ext';simp)
theorem st_nilCheck (sm:Sim P G ρ h w) (hT:TRel ρ T a.tmps) {x:Operand} {v:Option AVal} {h':AHeap} (hr:retO h (ob ((cOpd G nt x).get T) nilCheckA)=some (v,h')) :
  ∃ z,v=some z/\h'=h/\VRel ρ z (a.eval x)/\((∃ A,a.eval x=.pointer (some A))\/(∃ f A B,a.eval x=.func (.func f) A B)\/(∃ A n c,a.eval x=.slice (some A) n c)):=by
 simp only [retO_eq,ob_eq,Prod.mk.injEq] at hr
 obtain ⟨z,⟨p,hp,hz⟩,rfl,rfl⟩:=hr
 have rp:=opd_rel sm hT hp
 cases p with
 | ptr b o =>
  have hz':some (AVal.ptr b o)=some z:=hz
  cases hz'
  obtain ⟨L,_,e⟩:=id rp
  exact ⟨_,rfl,rfl,rp,.inl ⟨_,e⟩⟩
 | func f x y =>
  have hz':some (AVal.func f x y)=some z:=hz
  cases hz'
  obtain ⟨A,B,e,_⟩:=id rp
  exact ⟨_,rfl,rfl,rp,.inr (.inl ⟨_,_,_,e⟩)⟩
 | slice b o l c s =>
  have hz':some (AVal.slice b o l c s)=some z:=hz
  cases hz'
  obtain ⟨L,A,C,_,e,_⟩:=id rp
  exact ⟨_,rfl,rfl,rp,.inr (.inr ⟨_,_,_,e⟩)⟩
 | _=>cases hz
theorem newObj_out (sm:Sim P G ρ h w) {o:Obj} {x:ABlock} (hb:∀ ρ' w',ρ.le ρ'->w'.heap[w.heap.size]?=some o->BRel P ρ' ⟨w.heap.size,0,0⟩ w' x) :
  ∃ w',(newObj o).run P w=.ok w.heap.size w'/\Sim P G (ρ.put h.next ⟨w.heap.size,0,0⟩) (h.new x) w'/\Ext ρ h w (ρ.put h.next ⟨w.heap.size,0,0⟩) (h.new x) w':=by
 have hg:∀ i,(h.new x).get i=if h.next=i then some x else if (none:Option Nat)=some i then none else h.get i:=fun i=>by
  rw [AHeap.get_new];simp
 refine ⟨{ w with heap:=w.heap.push o },by simp [newObj,Sem.run],?_,Ext.push sm none rfl rfl rfl hg rfl rfl rfl⟩
 exact Sim.push sm none rfl rfl rfl hg (hb _ _ (Rho.le_put (sm.fresh _ (Nat.le_refl _)).2) (by simp))
theorem st_makeMap (sm:Sim P G ρ h w) (hT:TRel ρ T a.tmps) {t kt et:TypeId} (hu:P.underlying t=some (.map kt et)) {r:Option Operand} {v:Option AVal} {h':AHeap}
  (hr:makeMapA kt T h (r.map (cOpd G nt))=some (v,h')):OutOk P G (vS (Instr.makeMap t (r.map a.eval))) ρ h w v h':=by
 obtain ⟨w',h1,h2,h3⟩:=newObj_out (P:=P) sm (o:=.map #[] 0) (x:=.map kt [] 0) fun ρ' w' _ hw=>⟨rfl,fun e he=>(by cases he),[],hw,rfl⟩
 have main:ret (h.new (.map kt [] 0)) (.map h.next)=some (v,h')->((do pure (.map (some (<-newObj (.map #[] 0)))):Sem Value)).run P w=.ok (.map (some w.heap.size)) w' ->
   (Instr.makeMap t (r.map a.eval)).run P w=((do pure (.map (some (<-newObj (.map #[] 0)))):Sem Value)).run P w->OutOk P G (vS (Instr.makeMap t (r.map a.eval))) ρ h w v h':=by
  intro hr e1 e2
  simp only [ret_eq,Prod.mk.injEq] at hr
  obtain ⟨rfl,rfl⟩:=hr
  exact OutOk.val (e2.trans e1) ⟨_,Rho.put_same _ _ _,rfl⟩ h2 h3
 have e1:((do pure (.map (some (<-newObj (.map #[] 0)))):Sem Value)).run P w=.ok (.map (some w.heap.size)) w':=by
  rw [Sem.run_bind,h1];rfl
 cases r with
 | none=>exact main hr e1 (by simp [Instr.makeMap])
 | some x =>
  have hr':ob ((cOpd G nt x).get T) (fun a=>onInt a fun _ _=>ret (h.new (.map kt [] 0)) (.map h.next))=some (v,h'):=hr
  simp only [ob_eq,onInt_eq] at hr'
  obtain ⟨p,hp,k,n,rfl,hr'⟩:=hr'
  have rp:=opd_rel sm hT hp
  simp only [VRel] at rp
  exact main hr' e1 (by simp [Instr.makeMap,run_underlying hu,rp,asInt,asIntOf])
theorem st_range (sm:Sim P G ρ h w) (hT:TRel ρ T a.tmps) {t:TypeId} (hu:P.underlying t=some .string) {x:Operand} {v:Option AVal} {h':AHeap}
  (hr:(ob ((cOpd G nt x).get T) fun a=>onStr a fun s=>ret (h.new (.siter 0 s)) (.ptr h.next 0))=some (v,h')):OutOk P G (vS (Instr.range t (a.eval x))) ρ h w v h':=by
 simp only [ob_eq,onStr_eq,ret_eq,Prod.mk.injEq] at hr
 obtain ⟨p,hp,s,rfl,rfl,rfl⟩:=hr
 obtain ⟨S,e,hS⟩:=opd_rel sm hT hp
 obtain ⟨w',h1,h2,h3⟩:=newObj_out (P:=P) sm (o:=.stringIter S 0) (x:=.siter 0 s) fun ρ' w' _ hw=>⟨rfl,S,hw,by simpa using hS,Nat.zero_le _⟩
 refine OutOk.val (V:=.pointer (some ⟨w.heap.size,0,none⟩)) ?_ ⟨_,Rho.put_same _ _ _,rfl⟩ h2 h3
 rw [e]
 simp only [Instr.range,Sem.run_bind,run_underlying hu,Result.andThen_ok,Sem.run_pure,h1]
theorem st_rangeM (sm:Sim P G ρ h w) (hT:TRel ρ T a.tmps) {t kt et:TypeId} (hu:P.underlying t=some (.map kt et)) {x:Operand} {v:Option AVal} {h':AHeap}
  (hr:(ob ((cOpd G nt x).get T) fun a=>rangeMA a h)=some (v,h')):OutOk P G (vS (Instr.range t (a.eval x))) ρ h w v h':=by
 simp only [ob_eq,rangeMA,onMapV_eq,onEntries_eq,ret_eq,Prod.mk.injEq] at hr
 obtain ⟨p,hp,hr⟩:=hr
 have rp:=opd_rel sm hT hp
 rcases hr with ⟨rfl,rfl,rfl⟩ | ⟨b,rfl,y,hy,kt',es,clock,rfl,rfl,rfl⟩
 ·simp only [VRel] at rp
  obtain ⟨w',h1,h2,h3⟩:=newObj_out (P:=P) sm (o:=.mapIter none 0 #[] 0) (x:=.miter none 0 [] 0) fun ρ' w' _ hw=>⟨rfl,none,hw,rfl⟩
  refine OutOk.val (V:=.pointer (some ⟨w.heap.size,0,none⟩)) ?_ ⟨_,Rho.put_same _ _ _,rfl⟩ h2 h3
  rw [rp]
  simp only [Instr.range,Sem.run_bind,run_underlying hu,Result.andThen_ok,Sem.run_pure,h1]
 ·obtain ⟨L,hL,e1⟩:=rp
  obtain ⟨L',hL',h0,_,ES,g1,g2⟩:=sm.blk _ _ hy
  rw [hL] at hL';cases hL'
  obtain ⟨w',h1,h2,h3⟩:=newObj_out (P:=P) sm (o:=.mapIter (some L.blk) clock #[] clock) (x:=.miter (some b) clock [] clock) fun ρ' w' le hw=>⟨rfl,some L.blk,hw,L,le _ _ hL,h0,rfl⟩
  refine OutOk.val (V:=.pointer (some ⟨w.heap.size,0,none⟩)) ?_ ⟨_,Rho.put_same _ _ _,rfl⟩ h2 h3
  rw [e1]
  simp only [Instr.range,Sem.run_bind,run_underlying hu,Result.andThen_ok,getObj_run g1 rfl,Sem.run_pure,h1]
theorem find_rel {es:List AEntry} {ES:List MapEntry} (r:ERels ρ es ES) {n:Nat}:∀ {e:AEntry},(es.find? fun e=>Nat.beq e.born n)=some e->∃ E,(ES.find? fun E=>E.born == n)=some E/\ERel ρ e E:=by
 induction es generalizing ES with
 | nil=>intro e he;simp at he
 | cons x es ih =>
  obtain ⟨X,XS,rfl,r1,r2⟩:=r
  intro e he
  simp only [List.find?_cons] at he ⊢
  have hb:(X.born == n)=Nat.beq x.born n:=by
   rw [r1.2.2,nbeq]
   rfl
  rw [hb]
  split at he
  ·cases he;exact ⟨X,rfl,r1⟩
  ·exact ih r2 he
theorem st_entry (sm:Sim P G ρ h w) (hT:TRel ρ T a.tmps) {x:Operand} {v:Option AVal} {h':AHeap} (hr:(ob ((cOpd G nt x).get T) fun a=>entryA a h)=some (v,h')) :
  OutOk P G (vS (Instr.entry (a.eval x))) ρ h w v h':=by
 simp only [ob_eq,entryA,onPtr_eq,bi_some,onMIter_eq,onEntries_eq,ret_eq,Prod.mk.injEq] at hr
 obtain ⟨p,hp,b,off,rfl,h0,y,hy,m,since,seen,last,rfl,mb,rfl,z,hz,kt,es,clock,rfl,hc,n,hn,e,he,rfl,rfl⟩:=hr
 have h0:=Nat.eq_of_beq_eq_true h0
 subst h0
 have hc:=Nat.eq_of_beq_eq_true hc
 subst hc
 obtain ⟨L,hL,e1⟩:=opd_rel sm hT hp
 obtain ⟨L',hL',hb0,M,g1,K,hK,hK0,rfl⟩:=sm.blk _ _ hy
 rw [hL] at hL';cases hL'
 obtain ⟨K',hK',_,_,ES,g3,g4⟩:=sm.blk _ _ hz
 rw [hK] at hK';cases hK'
 obtain ⟨E,hE,r1,r2,_⟩:=find_rel g4 he
 refine OutOk.same sm (V:=.tuple #[E.key,E.val]) ?_ ⟨[E.key,E.val],rfl,.cons r1 (.one r2)⟩
 rw [e1,hb0]
 have hback:(⟨seen.reverse⟩:Array Nat).back?=some n:=by
  cases seen with
  | nil=>simp at hn
  | cons q l=>simp only [List.head?_cons,Option.some.injEq] at hn;subst hn;simp [Array.back?_eq_getElem?]
 simp only [Instr.entry,Sem.run_bind,getObj_run g1 rfl,Result.andThen_ok,hback,getObj_run g3 rfl,bne_self_eq_false,Bool.false_eq_true,if_false]
 have:(⟨ES⟩:Array MapEntry).find? (·.born == n)=some E:=by simpa using hE
 rw [this]
 rfl
end
end Go.Ab
namespace Go.Ab
variable {P:Program} {G:List Nat}
section
variable {ρ:Rho} {h:AHeap} {w:World}
variable {T:PT AVal} {a:Act} {nt:Nat}
theorem BRel.row {ρ':Rho} {w':World} {L:Loc} {cs:List AVal} {CS:Array Value} {e:TypeId} {fr:Nat×Nat} {m:Nat} (hc:VRels ρ' cs (CS.toList.take cs.length)) (hle:cs.length<=CS.size)
  (hw:w'.heap[L.blk]?=some (.cells CS e fr)) (h0:L.base=0) (hs:L.size=CS.size) (h1:m<=1->CS.size<=fr.1\/fr=(0,0)) (h2:m=0->fr=(0,0)) :
  BRel P ρ' L w' (.cells cs.length (ofList cs) m):=by
 refine ⟨CS,e,fr,hw,hs.symm,by omega,fun i hi v hv=>?_,fun hm i _ hi=>?_,h2⟩
 ·rw [get_ofList] at hv
  obtain ⟨V,e1,e2⟩:=hc.get hv
  rw [List.getElem?_take,if_pos hi] at e1
  exact ⟨V,by rw [h0,Nat.zero_add];simpa using e1,e2⟩
 ·rcases h1 hm with h | h
  ·omega
  ·rw [h];simp
theorem row_push (sm:Sim P G ρ h w) {cs:List AVal} {CS:Array Value} {e:TypeId} {fr:Nat×Nat} {m:Nat} (hc:VRels ρ cs (CS.toList.take cs.length)) (hle:cs.length<=CS.size) {w':World}
  (hw:w'.heap=w.heap.push (.cells CS e fr)) (h1:m<=1->CS.size<=fr.1\/fr=(0,0)) (h2:m=0->fr=(0,0)) (ho:w'.os=w.os) (ht:w'.tape=w.tape) (hu:w'.output=w.output) {h':AHeap} (del:Option Nat)
  (hn:h'.next=h.next+1) (hg:∀ i,h'.get i=if h.next=i then some (.cells cs.length (ofList cs) m) else if del=some i then none else h.get i) :
  Sim P G (ρ.put h.next ⟨w.heap.size,0,CS.size⟩) h' w'/\Ext ρ h w (ρ.put h.next ⟨w.heap.size,0,CS.size⟩) h' w' :=
 ⟨Sim.push sm del hw rfl hn hg (BRel.row (hc.mono (Rho.le_put (sm.fresh _ (Nat.le_refl _)).2) _ _) hle (e:=e) (fr:=fr) (by rw [hw];simp) rfl rfl h1 h2),Ext.push sm del hw rfl hn hg ho ht hu⟩
theorem new_get {x:ABlock} (i:Nat):(h.new x).get i=if h.next=i then some x else if (none:Option Nat)=some i then none else h.get i:=by rw [AHeap.get_new];simp
theorem turn_get {x:ABlock} {b:Nat} (i:Nat):(h.turn b x).get i=if h.next=i then some x else if some b=some i then none else h.get i:=by rw [AHeap.get_turn];simp
theorem more_run (sm:Sim P G ρ h w) {sz:Nat} {x:AVal} {X:Value} (rx:VRel ρ x X) {n:Nat} {cs:List AVal} (hm:more h sz x=some (n,cs)) :
  (Builtin.lenOf X).run P w=.ok n w/\cs.length=n*sz/\∀ m,m<=n->∃ CS,(Builtin.firstCells sz m X).run P w=.ok ⟨CS⟩ w/\VRels ρ (cs.take (m*sz)) CS:=by
 cases x with
 | str s =>
  have hm':bi (Nat.beq sz 1) (some (s.length,s.map fun b=>AVal.int .u8 b.toNat)) none=some (n,cs):=hm
  simp only [bi_some,Option.some.injEq,Prod.mk.injEq] at hm'
  obtain ⟨h1,rfl,rfl⟩:=hm'
  have h1:=Nat.eq_of_beq_eq_true h1
  subst h1
  obtain ⟨S,rfl,hS⟩:=rx
  have hsz:S.size=s.length:=by rw [<-hS];simp
  refine ⟨by simp [Builtin.lenOf,hsz],by simp,fun m hm=>⟨(s.take m).map fun b=>Value.int .u8 b.toNat,?_,?_⟩⟩
  ·simp only [Builtin.firstCells,Sem.run_pure]
   congr 1
   apply Array.ext'
   rw [<-hS]
   simp [ByteArray.data_extract,List.extract_eq_take_drop]
  ·rw [Nat.mul_one,<-List.map_take]
   generalize s.take m=l
   induction l with
   | nil=>simp [VRels]
   | cons c l ih=>exact .cons (by simp [VRel]) ih
 | nils =>
  have hm':some (0,[])=some (n,cs):=hm
  cases hm'
  simp only [VRel] at rx;subst rx
  exact ⟨rfl,by simp,fun m hm=>⟨[],rfl,by simp [VRels]⟩⟩
 | slice b off len cap z =>
  have hm':bi (Nat.beq z sz) (ob (h.read b off (len*sz)) fun l=>some (len,l)) none=some (n,cs):=hm
  simp only [bi_some,ob_eq,Option.some.injEq,Prod.mk.injEq] at hm'
  obtain ⟨h1,l,hl,rfl,rfl⟩:=hm'
  obtain ⟨L,A,C,hL,rfl,g1,g2,g3⟩:=rx
  obtain ⟨L',XS,hL',hV,hlen,hc,_⟩:=read_cells sm hl
  rw [hL] at hL';cases hL'
  refine ⟨rfl,by rw [hV.length,hlen],fun m hm=>⟨XS.take (m*sz),?_,hV.take _⟩⟩
  have hms:m*sz<=len*sz:=Nat.mul_le_mul_right _ hm
  rcases g3 with ⟨rfl,_⟩ | h0
  ·simp only [Builtin.firstCells]
   exact run_loadCells' (by simp;omega) fun j hj=>by rw [hc j (by omega),List.getElem?_take,if_pos hj]
  ·have:m=0:=by omega
   subst this
   simp only [Builtin.firstCells,Nat.zero_mul,List.take_zero]
   exact run_loadCells_list (P:=P) w A [] (fun j v hv=>by simp at hv)
 | _=>cases hm
theorem typeInfo_run {t:TypeId} {n:Nat} (h:sizeT P t=some n):∃ i,P.info? t=some i/\i.bytes=P.bytesOf t/\∀ w,(typeInfo t).run P w=.ok i w:=by
 unfold sizeT at h
 split at h
 ·rename_i i hi
  exact ⟨i,hi,by simp [Program.bytesOf,hi],fun w=>by simp [typeInfo,program,Sem.run,hi]⟩
 ·cases h
section
variable {t u e:TypeId} {sz:Nat} {z:List AVal} {s x:AVal} {S X:Value}
theorem append_new_run (sm:Sim P G ρ h w) (hu:P.underlying t=some (.slice e)) {d:TypeDesc} (hx:P.underlying u=some d) (hd:∀ k,d≠.int k) (hz:zeroE P e=some (sz,z)) (rx:VRel ρ x X) {n:Nat} {new:List AVal}
  (hm:more h sz x=some (n,new)) {base:Option Addr} {len C:Nat} {old:List Value} (ho:(Builtin.firstCells sz len (.slice base len C)).run P w.drew=.ok ⟨old⟩ w.drew) (hC:C < len+n) (hn:len+n<=67108864) (ty:TypeId) :
  ∃ c NEW rest,(Builtin.append_ #[t,u] ty #[.slice base len C,X]).run P w=.ok (.slice (some ⟨w.heap.size,0,none⟩) (len+n) c) (w.drew.alloc (.cells ⟨old++NEW++rest⟩ e))/\len+n<=c/\VRels ρ new NEW /\
   rest.length=(c - (len+n))*sz:=by
 obtain ⟨hs,⟨y,hy,rfl,hzl⟩,hb⟩:=zeroE_eq hz
 obtain ⟨Z,zr,zv⟩:=zeroT_run hy
 obtain ⟨i,hi,hib,hir⟩:=typeInfo_run hs
 obtain ⟨m1,m2,_⟩:=more_run sm rx hm
 obtain ⟨_,_,m3⟩:=more_run (sm.same (w':=w.drew) rfl) rx hm
 obtain ⟨NEW,f1,f2⟩:=m3 n (Nat.le_refl _)
 rw [<-m2,List.take_length] at f2
 have hfit:Builtin.nextslicecap (len+n) C*i.bytes<=281474976710656:=growslice_fits hC (by
  have:(len+n)*i.bytes<=67108864*65536:=Nat.mul_le_mul hn (by omega)
  omega)
 have hbig:¬ (281474976710656 < Builtin.nextslicecap (len+n) C*i.bytes):=by omega
 have hn':¬ (len+n<=C):=by omega
 have h63:¬ (9223372036854775807 < ((len:Int)+(n:Int))):=by omega
 have hzs:Z.cells.size=sz:=by
  have:=(zv ρ).cells.length
  simp only [Array.length_toList] at this
  omega
 have hint:((do pure ((<-underlying u) matches .int _)):Sem Bool).run P w=.ok false w:=by
  rw [Sem.run_bind,run_underlying hx]
  cases d<;>first | (exact absurd rfl (hd _)) | rfl
 have hc:(choose (.appendCap (len+n) C e)).run P w=.ok (grownCap w (len+n) C e) w.drew:=by
  simp only [choose,Sem.run,Question.forced,Bool.false_eq_true,if_false];rfl
 refine ⟨grownCap w (len+n) C e,NEW,(Builtin.zeroCells Z.cells (grownCap w (len+n) C e - (len+n))).toList,?_,by simp [grownCap,Question.cut],f2,?_⟩
 ·have hz2:=zr w.drew
  simp [Builtin.append_,run_underlying hu,run_underlying hx,sizeT_run hs,hir,m1,h63,hbig,ho,f1,hz2,Question.forced]
  rw [if_neg hn']
  simp only [newRow,Sem.run_bind,newObj,Sem.run,Result.andThen_ok,Sem.run_pure]
  have e2:(⟨old⟩++(⟨NEW⟩++Builtin.zeroCells Z.cells (grownCap w (len+n) C e - (len+n))):Array Value)=⟨old++(NEW++(Builtin.zeroCells Z.cells (grownCap w (len+n) C e - (len+n))).toList)⟩:=by
   apply Array.ext';simp
  rw [<-e2]
  rfl
 ·simp [Builtin.zeroCells,hzs]
theorem append_room_run (hu:P.underlying t=some (.slice e)) {d:TypeDesc} (hx:P.underlying u=some d) (hd:∀ k,d≠.int k) (hs:sizeT P e=some sz) {n:Nat} {NEW:List Value} (m1:(Builtin.lenOf X).run P w=.ok n w)
  (f1:(Builtin.firstCells sz n X).run P w=.ok ⟨NEW⟩ w) {A:Addr} {len C:Nat} (hC:len+n<=C) {w':World} (hst:(storeCells (A.add (len*sz)) NEW).run P w=.ok () w') (ty:TypeId) :
  (Builtin.append_ #[t,u] ty #[.slice (some A) len C,X]).run P w=.ok (.slice (some A) (len+n) C) w':=by
 simp [Builtin.append_,run_underlying hu,run_underlying hx,sizeT_run hs,m1,hC,f1,hst]
theorem append_none_run (hu:P.underlying t=some (.slice e)) {d:TypeDesc} (hx:P.underlying u=some d) (hd:∀ k,d≠.int k) (hs:sizeT P e=some sz) {NEW:List Value} (m1:(Builtin.lenOf X).run P w=.ok 0 w)
  (f1:(Builtin.firstCells sz 0 X).run P w=.ok ⟨NEW⟩ w) (ty:TypeId):(Builtin.append_ #[t,u] ty #[.slice none 0 0,X]).run P w=.ok (.slice none 0 0) w:=by
 simp [Builtin.append_,run_underlying hu,run_underlying hx,sizeT_run hs,m1,f1]
theorem VRels.nil_of_length {ρ:Rho} {vs:List AVal} {VS:List Value} (r:VRels ρ vs VS) (h:vs.length=0):VS=[]:=by
 have:=r.length
 exact List.length_eq_zero_iff.1 (by omega)
theorem st_append (sm:Sim P G ρ h w) (hu:P.underlying t=some (.slice e)) {d:TypeDesc} (hx:P.underlying u=some d) (hd:∀ k,d≠.int k) (hz:zeroE P e=some (sz,z)) (rs:VRel ρ s S) (rx:VRel ρ x X)
  {v:Option AVal} {h':AHeap} (hr:appendA h sz s x=some (v,h')) (ty:TypeId):OutOk P G (vS (Builtin.append_ #[t,u] ty #[S,X])) ρ h w v h':=by
 have hs:=(zeroE_eq hz).1
 simp only [appendA,ob_eq] at hr
 obtain ⟨⟨n,new⟩,hm,hr⟩:=hr
 obtain ⟨m1,m2,m3⟩:=more_run sm rx hm
 have hr:bi (Nat.beq n 0) (onRow s (ret h s) fun _ _ _ _ _=>ret h s) (appendTo h sz s n new)=some (v,h'):=hr
 rw [bi_eq] at hr
 split at hr
 ·rename_i h0
  have h0:=Nat.eq_of_beq_eq_true h0
  subst h0
  obtain ⟨NEW,f1,f2⟩:=m3 0 (Nat.le_refl _)
  rw [Nat.zero_mul,List.take_zero] at f2
  simp only [VRels] at f2
  subst f2
  rcases onRow_eq.1 hr with ⟨rfl,hr⟩ | ⟨b,o,l,c,q,rfl,hr⟩<;>(obtain ⟨rfl,rfl⟩:=Prod.mk.inj (ret_eq.1 hr))
  ·have rs':=rs
   simp only [VRel] at rs';subst rs'
   exact OutOk.same sm (append_none_run hu hx hd hs m1 f1 ty) rs
  ·obtain ⟨L,A,C,hL,rfl,g1,g2,g3⟩:=id rs
   exact OutOk.same sm (append_room_run hu hx hd hs m1 f1 (by omega) (by rfl) ty) rs
 ·simp only [appendTo,onRow_eq,bi_some,ob_eq,onCells_eq,ret_eq,Prod.mk.injEq,Bool.and_eq_true] at hr
  rename_i hn0
  have hn0':n≠0:=fun e=>hn0 (by simp [e])
  rcases hr with ⟨rfl,hn,rfl,rfl⟩ | ⟨b,off,len,cap,z',rfl,⟨hz',hn,h1⟩,y,hy,k,c,m,rfl,hm1,hr⟩
  ·simp only [VRel] at rs;subst rs
   have hn:=Nat.le_of_ble_eq_true hn
   obtain ⟨c,NEW,rest,r1,r2,r3,r4⟩:=append_new_run (len:=0) (C:=0) (base:=none) (old:=[]) sm hu hx hd hz rx hm rfl (by omega) (by omega) ty
   rw [Nat.zero_add] at r1 r2 r4
   have hl:=r3.length
   obtain ⟨p1,p2⟩:=row_push sm (cs:=new) (CS:=⟨[]++NEW++rest⟩) (e:=e) (fr:=(0,0)) (m:=0) (w':=w.drew.alloc (.cells ⟨[]++NEW++rest⟩ e)) (h':=h.newCells new)
    (by simpa [hl] using r3) (by simp [hl]) rfl (fun _=>.inr rfl) (fun _=>rfl) rfl rfl rfl none rfl new_get
   refine OutOk.val r1 ⟨_,_,c,Rho.put_same _ _ _,rfl,Nat.le_refl _,r2,.inl ⟨rfl,?_⟩⟩ p1 p2
   have e1:c*sz=n*sz+(c - n)*sz:=by rw [<-Nat.add_mul];congr 1;omega
   simp [r4,<-hl,m2,e1]
  ·have hz':=Nat.eq_of_beq_eq_true hz'
   subst hz'
   have hn:=Nat.le_of_ble_eq_true hn
   have hm1:=Nat.le_of_ble_eq_true hm1
   obtain ⟨L,A,C,hL,rfl,g1,g2,g3⟩:=id rs
   obtain ⟨L',hL',cc,ty',fr,b1,b2,b3,b4,b5,_⟩:=sm.blk _ _ hy
   rw [hL] at hL';cases hL'
   obtain ⟨NEW,f1,f2⟩:=m3 n (Nat.le_refl _)
   rw [<-m2,List.take_length] at f2
   have hlen:=f2.length
   by_cases hroom:len+n<=C
   ·
    obtain ⟨rfl,hfit⟩:=g3.resolve_right (by omega)
    have hmul:len*z'+n*z'<=C*z':=by rw [<-Nat.add_mul];exact Nat.mul_le_mul_right _ hroom
    obtain ⟨w',st,tn⟩:=run_storeCells (P:=P) (o:=L.base+off+len*z') NEW 0 cc w b1 (by omega) (allOne_rel f2 h1) (fun j hj hj'=>b5 hm1 j (by omega) (by omega))
    have hrun:=append_room_run (ty:=ty) (A:=⟨L.blk,L.base+off,none⟩) hu hx hd hs m1 f1 hroom (by rw [addr_add];exact st)
    have hval:∀ (ρ':Rho) (L':Loc) (id:Nat),ρ' id=some L'->L'.blk=L.blk->L'.base=L.base+off->L'.size=L.size->VRel ρ' (.slice id 0 (len+n) (len+n) z') (.slice (some ⟨L.blk,L.base+off,none⟩) (len+n) C) :=
     fun ρ' L' id q1 q2 q3 q4=>⟨L',_,C,q1,rfl,Nat.le_refl _,hroom,.inl ⟨by rw [q2,q3];rfl,by rw [q3,q4];omega⟩⟩
    rw [bi_eq] at hr
    change @Eq (Option (Option AVal×AHeap)) _ _ at hr
    split at hr
    ·rename_i hv
     simp only [Bool.and_eq_true] at hv
     simp only [ret_eq,Prod.mk.injEq] at hr
     have ho:=Nat.eq_of_beq_eq_true hv.1
     have hk:=Nat.eq_of_beq_eq_true hv.2
     subst ho;subst hk
     obtain ⟨rfl,rfl⟩:=hr
     refine OutOk.val hrun (hval _ L _ (Rho.put_same _ _ _) rfl rfl rfl) (Sim.turn sm hy hm1 hL rfl tn.other ?_) (Ext.turn sm hy hm1 hL rfl tn.other tn.size tn.os tn.tape tn.output)
     refine ⟨_,ty',fr,tn.at_,by rw [overwrite_size,b2],by omega,fun i hi v hv=>?_,fun _=>b5 hm1,fun e=>absurd e (by decide)⟩
     rw [get_setCells] at hv
     rw [overwrite_get _ _ _ _ (by omega)]
     split at hv
     ·obtain ⟨V,e1,e2⟩:=f2.get hv
      rw [if_pos (by omega)]
      exact ⟨V,by rw [<-e1];congr 1;omega,e2.mono (Rho.le_put (sm.fresh _ (Nat.le_refl _)).2) _ _⟩
     ·rw [if_neg (by omega)]
      obtain ⟨V,e1,e2⟩:=b4 i (by omega) v hv
      exact ⟨V,e1,e2.mono (Rho.le_put (sm.fresh _ (Nat.le_refl _)).2) _ _⟩
    ·simp only [ob_eq,ret_eq,Prod.mk.injEq] at hr
     obtain ⟨old,hold,rfl,rfl⟩:=hr
     obtain ⟨L',XS,hL',q1,q2,q3,q4⟩:=read_cells sm hold
     rw [hL] at hL';cases hL'
     refine OutOk.val hrun (hval _ ⟨L.blk,L.base+off,L.size⟩ _ (Rho.put_same _ _ _) rfl rfl rfl) (Sim.turn sm hy hm1 hL rfl tn.other ?_) (Ext.turn sm hy hm1 hL rfl tn.other tn.size tn.os tn.tape tn.output)
     have hol:old.length=len*z':=by rw [q1.length,q2]
     refine ⟨_,ty',fr,tn.at_,by rw [overwrite_size,b2],by simp only [List.length_append];omega,fun i hi v hv=>?_,fun _ j hj hj'=>b5 hm1 j (by simp only at hj;omega) hj',fun e=>absurd e (by decide)⟩
     simp only [List.length_append] at hi
     rw [get_ofList] at hv
     rw [overwrite_get _ _ _ _ (by omega)]
     by_cases hil:i < old.length
     ·rw [List.getElem?_append_left hil] at hv
      obtain ⟨V,e1,e2⟩:=q1.get hv
      rw [if_neg (by simp only;omega)]
      refine ⟨V,?_,e2.mono (Rho.le_put (sm.fresh _ (Nat.le_refl _)).2) _ _⟩
      rw [<-e1,<-q3 i (by omega),cell_at b1]
     ·rw [List.getElem?_append_right (by omega)] at hv
      obtain ⟨V,e1,e2⟩:=f2.get hv
      rw [if_pos (by simp only;omega)]
      exact ⟨V,by rw [<-e1];congr 1;simp only;omega,e2.mono (Rho.le_put (sm.fresh _ (Nat.le_refl _)).2) _ _⟩
   ·
    have hol:((cc.toList.drop (L.base+off)).take (len*z')).length=len*z':=by
     rcases g3 with ⟨_,g3⟩ | g3
     ·have:len*z'<=C*z':=Nat.mul_le_mul_right _ (by omega)
      simp;omega
     ·have:len=0:=by omega
      subst this;simp
    have hold:(Builtin.firstCells z' len (.slice (some A) len C)).run P w.drew=.ok ⟨(cc.toList.drop (L.base+off)).take (len*z')⟩ w.drew:=by
     simp only [Builtin.firstCells]
     rcases g3 with ⟨rfl,g3⟩ | g3
     ·refine run_loadCells' hol fun j hj=>?_
      rw [cell_at (w:=w.drew) b1,List.getElem?_take,if_pos hj,List.getElem?_drop]
      simp
     ·have:len=0:=by omega
      subst this
      simp only [Nat.zero_mul,List.take_zero]
      exact run_loadCells_list (P:=P) w.drew A [] (fun j v hv=>by simp at hv)
    obtain ⟨q,NEW',rest,r1,r2,r3,r4⟩:=append_new_run sm hu hx hd hz rx hm hold (by omega) hn ty
    generalize hOLD:(cc.toList.drop (L.base+off)).take (len*z')=OLD at *
    have hnl:=r3.length
    have hsz:(⟨OLD++NEW'++rest⟩:Array Value).size=q*z':=by
     have e1:q*z'=len*z'+n*z'+(q - (len+n))*z':=by rw [<-Nat.add_mul,<-Nat.add_mul];congr 1;omega
     simp only [List.size_toArray,List.length_append]
     omega
    have hval:∀ ρ':Rho,ρ' h.next=some ⟨w.heap.size,0,(⟨OLD++NEW'++rest⟩:Array Value).size⟩->VRel ρ' (.slice h.next 0 (len+n) (len+n) z') (.slice (some ⟨w.heap.size,0,none⟩) (len+n) q) :=
     fun ρ' e=>⟨_,_,q,e,rfl,Nat.le_refl _,r2,.inl ⟨rfl,by rw [hsz];simp⟩⟩
    have hle:ρ.le (ρ.put h.next ⟨w.heap.size,0,(⟨OLD++NEW'++rest⟩:Array Value).size⟩):=Rho.le_put (sm.fresh _ (Nat.le_refl _)).2
    have hget:∀ i,i < len*z'->OLD[i]?=cc[L.base+off+i]?:=fun i hi=>by
     rw [<-hOLD,List.getElem?_take,if_pos hi,List.getElem?_drop];simp
    rw [bi_eq] at hr
    change @Eq (Option (Option AVal×AHeap)) _ _ at hr
    split at hr
    ·rename_i hv
     simp only [Bool.and_eq_true] at hv
     simp only [ret_eq,Prod.mk.injEq] at hr
     have ho:=Nat.eq_of_beq_eq_true hv.1
     have hk:=Nat.eq_of_beq_eq_true hv.2
     subst ho;subst hk
     obtain ⟨rfl,rfl⟩:=hr
     refine OutOk.val r1 (hval _ (Rho.put_same _ _ _)) (Sim.push (o:=.cells ⟨OLD++NEW'++rest⟩ e) sm (some b) rfl rfl rfl turn_get ?_) (Ext.push sm (some b) rfl rfl rfl turn_get rfl rfl rfl)
     refine ⟨⟨OLD++NEW'++rest⟩,e,(0,0),by show (w.heap.push _)[w.heap.size]?=_;simp,rfl,?_,fun i hi v hv=>?_,fun _ i _ _=>by simp,fun _=>rfl⟩
     ·simp only [List.size_toArray,List.length_append];omega
     ·rw [get_setCells] at hv
      simp only [Nat.zero_add,List.getElem?_toArray]
      split at hv
      ·obtain ⟨V,e1,e2⟩:=r3.get hv
       refine ⟨V,?_,e2.mono hle _ _⟩
       rw [List.append_assoc,List.getElem?_append_right (by omega),hol,List.getElem?_append_left (by omega)]
       exact e1
      ·obtain ⟨V,e1,e2⟩:=b4 i (by omega) v hv
       refine ⟨V,?_,e2.mono hle _ _⟩
       rw [List.append_assoc,List.getElem?_append_left (by omega),hget i (by omega)]
       exact e1
    ·simp only [ob_eq,ret_eq,Prod.mk.injEq] at hr
     obtain ⟨old,hold',rfl,rfl⟩:=hr
     obtain ⟨L',XS,hL',q1,q2,q3,q4⟩:=read_cells sm hold'
     rw [hL] at hL';cases hL'
     have hXS:XS=OLD:=by
      apply List.ext_getElem?
      intro i
      by_cases hi:i < len*z'
      ·rw [<-q3 i hi,hget i hi,cell_at b1]
      ·rw [List.getElem?_eq_none (by omega),List.getElem?_eq_none (by omega)]
     subst hXS
     have hr3:=q1.append r3
     have hl3:=hr3.length
     obtain ⟨p1,p2⟩:=row_push sm (cs:=old++new) (CS:=⟨XS++NEW'++rest⟩) (e:=e) (fr:=(0,0)) (m:=1) (w':=w.drew.alloc (.cells ⟨XS++NEW'++rest⟩ e)) (h':=h.turn b (.cells (old++new).length (ofList (old++new)) 1))
      (by rw [hl3];show VRels ρ _ (((XS++NEW')++rest).take (XS++NEW').length);rw [List.take_left' rfl];exact hr3) (by rw [hl3];simp) rfl (fun _=>.inr rfl) (fun _=>rfl) rfl rfl rfl (some b) rfl turn_get
     exact OutOk.val r1 (hval _ (Rho.put_same _ _ _)) p1 p2
end
end
end Go.Ab
namespace Go.Ab
variable {P:Program} {G:List Nat}
section
variable {ρ:Rho} {h:AHeap} {w:World}
variable {T:PT AVal} {a:Act} {nt:Nat}
variable {t u e:TypeId} {sz:Nat} {z:List AVal} {s x:AVal} {S X:Value}
theorem st_copy (sm:Sim P G ρ h w) (hu:P.underlying t=some (.slice e)) (hs:sizeT P e=some sz) (rs:VRel ρ s S) (rx:VRel ρ x X) {v:Option AVal} {h':AHeap} (hr:copyA h sz s x=some (v,h')) (ts:List TypeId) (ty:TypeId) :
  OutOk P G (vS (Builtin.copy_ ⟨t :: ts⟩ ty #[S,X])) ρ h w v h':=by
 simp only [copyA,ob_eq,onRow_eq,bi_some,ret_eq,Prod.mk.injEq] at hr
 obtain ⟨⟨n,new⟩,hm,hr⟩:=hr
 obtain ⟨m1,m2,m3⟩:=more_run sm rx hm
 rcases hr with ⟨rfl,rfl,rfl⟩ | ⟨b,off,len,cap,z',rfl,hz',h1,hw,rfl,rfl⟩
 ·simp only [VRel] at rs;subst rs
  obtain ⟨CS,f1,f2⟩:=m3 0 (Nat.zero_le _)
  refine OutOk.same sm (V:=goInt 0) ?_ (by simp [VRel,goInt])
  simp [Builtin.copy_,run_underlying hu,m1,sizeT_run hs,f1]
 ·have hz':=Nat.eq_of_beq_eq_true hz'
  subst hz'
  obtain ⟨L,A,C,hL,rfl,g1,g2,g3⟩:=rs
  obtain ⟨CS,f1,f2⟩:=m3 (Nat.min n len) (Nat.min_le_left _ _)
  obtain ⟨L',w',hL',hst,sm',x',_⟩:=write_run (P:=P) sm hw f2
  rw [hL] at hL';cases hL'
  have hst':(storeCells A CS).run P w=.ok () w':=by
   rcases g3 with ⟨rfl,_⟩ | h0
   ·exact hst
   ·have:len=0:=by omega
    subst this
    have hn:CS=[]:=VRels.nil_of_length f2 (by simp)
    subst hn
    exact hst
  refine OutOk.val (V:=goInt (Nat.min n len)) (w':=w') ?_ (by simp [VRel,goInt]) sm' x'
  simp [Builtin.copy_,run_underlying hu,m1,sizeT_run hs,f1,hst']
theorem st_clear (sm:Sim P G ρ h w) (hu:P.underlying t=some (.slice e)) (hz:zeroE P e=some (sz,z)) (rx:VRel ρ x X) {v:Option AVal} {h':AHeap} (hr:clearA h sz z x=some (v,h')) (ty:TypeId) :
  OutOk P G (vS (Builtin.clear_ #[t] ty #[X])) ρ h w v h':=by
 obtain ⟨hs,⟨y,hy,rfl,hzl⟩,hb⟩:=zeroE_eq hz
 obtain ⟨Z,zr,zv⟩:=zeroT_run hy
 have rt:∀ ρ':Rho,VRel ρ' (.tup []) (.tuple #[]):=fun ρ'=>⟨[],rfl,by simp [VRels]⟩
 have hl:=(zv ρ).cells.length
 simp only [Array.length_toList] at hl
 rcases onRow_eq.1 hr with ⟨rfl,hq⟩ | ⟨b,off,len,cap,z',rfl,hq⟩<;>clear hr
 ·obtain ⟨rfl,rfl⟩:=Prod.mk.inj (ret_eq.1 hq)
  simp only [VRel] at rx;subst rx
  exact OutOk.same sm (by simp [Builtin.clear_,run_underlying hu]) (rt _)
 ·rw [bi_some] at hq
  obtain ⟨hz',hq⟩:=hq
  have hz':=Nat.eq_of_beq_eq_true hz'
  obtain ⟨L,A,C,hL,rfl,g1,g2,g3⟩:=rx
  rw [bi_eq] at hq
  split at hq
  ·rename_i h0
   have h0:=Nat.eq_of_beq_eq_true h0
   subst h0
   obtain ⟨rfl,rfl⟩:=Prod.mk.inj (ret_eq.1 hq)
   exact OutOk.same sm (by simp [Builtin.clear_,run_underlying hu]) (rt _)
  ·rename_i h0
   have h0':len≠0:=fun q=>h0 (by simp [q])
   obtain ⟨h1,hw,hq⟩:=ob_eq.1 hq
   obtain ⟨rfl,rfl⟩:=Prod.mk.inj (ret_eq.1 hq)
   have rz:=zeros_rel (zv ρ).cells len
   obtain ⟨L',w',hL',hst,sm',x',_⟩:=write_run (P:=P) sm hw rz
   rw [hL] at hL';cases hL'
   obtain ⟨rfl,_⟩:=g3.resolve_right (by omega)
   refine OutOk.val (w':=w') ?_ (rt _) sm' x'
   have hzc:(Builtin.zeroCells Z.cells len).toList=((Array.range (len*y.cells.length)).map (Z.cells[· % Z.cells.size]!)).toList:=by
    rw [hl];rfl
   obtain ⟨len,rfl⟩:∃ k,len=k+1:=⟨len - 1,by omega⟩
   rw [<-hzc] at hst
   simp [Builtin.clear_,run_underlying hu,zr,hst]
theorem st_makeSlice (sm:Sim P G ρ h w) (hu:P.underlying t=some (.slice e)) (hz:zeroE P e=some (sz,z)) (rs:VRel ρ s S) (rx:VRel ρ x X) {v:Option AVal} {h':AHeap} (hr:makeSliceA sz z s x h=some (v,h')) :
  OutOk P G (vS (Instr.makeSlice t S X)) ρ h w v h':=by
 obtain ⟨hs,⟨y,hy,rfl,hzl⟩,hb⟩:=zeroE_eq hz
 obtain ⟨Z,zr,zv⟩:=zeroT_run hy
 obtain ⟨i,hi,hib,hir⟩:=typeInfo_run hs
 simp only [makeSliceA,onInt_eq,onNat_eq,bi_some,ret_eq,Prod.mk.injEq,Bool.and_eq_true] at hr
 obtain ⟨k,n1,rfl,k',n2,rfl,hk,hk',_,len,e1,_,cap,e2,⟨hlc,hcm⟩,rfl,rfl⟩:=hr
 cases e1;cases e2
 have:=sameK_iff hk
 subst this
 have:=sameK_iff hk'
 subst this
 have hlc:=Nat.le_of_ble_eq_true hlc
 have hcm:=Nat.le_of_ble_eq_true hcm
 simp only [VRel] at rs rx
 subst rs;subst rx
 have hl:=(zv ρ).cells.length
 simp only [Array.length_toList] at hl
 have w1:IntKind.i64.wrap (len:Int)=(len:Int):=by rw [IntKind.wrap_i64];omega
 have w2:IntKind.i64.wrap (cap:Int)=(cap:Int):=by rw [IntKind.wrap_i64];omega
 have rz:=zeros_rel (zv ρ).cells cap
 obtain ⟨L,w',h1,h2,h3,h4,h5,h6⟩:=newRow_run (P:=P) sm e 0 rz
 have hbig:¬ (281474976710656 < (i.bytes:Int)*(cap:Int)):=by
  have:i.bytes*cap<=65536*16777216:=Nat.mul_le_mul (by omega) hcm
  have h2:((i.bytes*cap:Nat):Int)<=1099511627776:=by omega
  push_cast at h2
  omega
 refine OutOk.val (V:=.slice (some ⟨L.blk,0,none⟩) len cap) (w':=w') (ρ':=ρ.put h.next L) ?_ ?_ h5 h6
 ·have hlc':¬ ((cap:Int) < (len:Int)):=by omega
  have hc0:¬ ((cap:Int) < 0):=by omega
  have hl0:¬ ((len:Int) < 0):=by omega
  rw [hl] at h4
  by_cases h0:cap*Z.cells.size=0
  ·have e0:((Array.range (cap*Z.cells.size)).map (Z.cells[· % Z.cells.size]!))=(Array.range 0).map fun _=>default:=by rw [h0];simp
   rw [e0] at h4
   have h0':cap*sz=0:=by rw [<-hzl,hl];exact h0
   simp [Instr.makeSlice,run_underlying hu,asInt,asIntOf,hir,w1,w2,hbig,hlc',hc0,hl0,sizeT_run hs,h0']
   rw [h4];rfl
  ·have h0':¬ (cap*sz=0):=by rw [<-hzl,hl];exact h0
   have e0:cap*sz=cap*Z.cells.size:=by rw [<-hzl,hl]
   rw [<-e0] at h4
   simp [Instr.makeSlice,run_underlying hu,asInt,asIntOf,hir,w1,w2,hbig,hlc',hc0,hl0,sizeT_run hs,zr]
   rw [if_neg (by simpa using h0'),h4];rfl
 ·have:=slice_rel (ρ:=ρ.put h.next L) (sz:=sz) (Rho.put_same ρ h.next L) hlc (Nat.le_refl cap) (by rw [h2,h3];simp [hzl])
  rw [h2] at this
  exact this
end
end Go.Ab
namespace Go.Ab
variable {P:Program} {G:List Nat}
def dec (at':Nat->Nat) (has:Nat->Bool):Nat×Nat :=
 let cont (k:Nat):Bool:=has k && at' k / 64 == 2
 let b0:=at' 0
 if b0 < 0x80 then (b0,1)
 else if b0 / 32 == 6 && cont 1 then
  let c:=(b0 % 32)*64+at' 1 % 64
  if c ≥ 0x80 then (c,2) else (Utf8.runeError,1)
 else if b0 / 16 == 14 && cont 1 && cont 2 then
  let c:=(b0 % 16)*4096+(at' 1 % 64)*64+at' 2 % 64
  if c ≥ 0x800 && Utf8.valid c then (c,3) else (Utf8.runeError,1)
 else if b0 / 8 == 30 && cont 1 && cont 2 && cont 3 then
  let c:=(b0 % 8)*262144+(at' 1 % 64)*4096+(at' 2 % 64)*64+at' 3 % 64
  if c ≥ 0x10000 && Utf8.valid c then (c,4) else (Utf8.runeError,1)
 else (Utf8.runeError,1)
theorem decode_dec (s:ByteArray) (i:Nat):Utf8.decode s i=dec (fun k=>(s.get! (i+k)).toNat) (fun k=>decide (i+k < s.size)):=rfl
theorem dec_same {a b:Nat->Nat} {p q:Nat->Bool} (h0:a 0=b 0) (h1:a 1=b 1) (h2:a 2=b 2) (h3:a 3=b 3) (p1:p 1=q 1) (p2:p 2=q 2) (p3:p 3=q 3):dec a p=dec b q:=by
 unfold dec
 simp only [h0,h1,h2,h3,p1,p2,p3]
theorem dec_width {a:Nat->Nat} {p:Nat->Bool} {n:Nat} (h0:1<=n) (h1:p 1=true->2<=n) (h2:p 2=true->3<=n) (h3:p 3=true->4<=n):1<=(dec a p).2/\(dec a p).2<=n:=by
 unfold dec
 simp only
 split
 ·exact ⟨by simp,by simpa using h0⟩
 ·split
  ·rename_i h
   simp only [Bool.and_eq_true] at h
   split
   ·exact ⟨by simp,by simpa using h1 h.2.1⟩
   ·exact ⟨by simp,by simpa using h0⟩
  ·split
   ·rename_i h
    simp only [Bool.and_eq_true] at h
    split
    ·exact ⟨by simp,by simpa using h2 h.2.1⟩
    ·exact ⟨by simp,by simpa using h0⟩
   ·split
    ·rename_i h
     simp only [Bool.and_eq_true] at h
     split
     ·exact ⟨by simp,by simpa using h3 h.2.1⟩
     ·exact ⟨by simp,by simpa using h0⟩
    ·exact ⟨by simp,by simpa using h0⟩
theorem get!_eq (s:ByteArray) (i:Nat):s.get! i=(s.data.toList[i]?).getD default:=by
 show s.data[i]! = _
 rw [Array.getElem!_eq_getD,Array.getD_eq_getD_getElem?,Array.getElem?_toList]
theorem decodeL_eq {S:ByteArray} {i:Nat} {rest:List UInt8} (h:S.data.toList.drop i=rest) (hi:i < S.size):decodeL rest=Utf8.decode S i:=by
 have hlen:rest.length=S.size - i:=by rw [<-h];simp
 have hg:∀ k,S.get! (i+k)=(rest[k]?).getD default:=fun k=>by rw [get!_eq,<-h,List.getElem?_drop]
 have hh:∀ k,decide (i+k < S.size)=decide (k < rest.length):=fun k=>by simp only [hlen];congr 1;simp;omega
 cases rest with
 | nil=>simp at hlen;omega
 | cons b r =>
  show bi (Nat.ble (b.toNat+1) 128) (b.toNat,1) (Utf8.decode ⟨((b :: r).take 4).toArray⟩ 0)=_
  rw [bi_eq,nble]
  split
  ·rename_i hb
   simp only [decide_eq_true_eq] at hb
   rw [decode_dec]
   unfold dec
   simp only [hg,List.getElem?_cons_zero,Option.getD_some]
   rw [if_pos (by omega)]
  ·rw [decode_dec,decode_dec]
   have e:∀ k,k < 4->(((b :: r).take 4)[k]?).getD default=((b :: r)[k]?).getD default:=fun k hk=>by rw [List.getElem?_take,if_pos hk]
   have e2:∀ k,k < 4->decide (0+k < (⟨((b :: r).take 4).toArray⟩:ByteArray).size)=decide (k < (b :: r).length):=fun k hk=>by
    congr 1
    simp only [ByteArray.size,List.size_toArray,List.length_take,Nat.zero_add,eq_iff_iff]
    omega
   have q:∀ k,k < 4->((⟨((b :: r).take 4).toArray⟩:ByteArray).get! (0+k)).toNat=(S.get! (i+k)).toNat:=fun k hk=>by
    rw [hg,get!_eq (⟨((b :: r).take 4).toArray⟩) (0+k),Nat.zero_add]
    exact congrArg _ (e k hk)
   exact dec_same (q 0 (by omega)) (q 1 (by omega)) (q 2 (by omega)) (q 3 (by omega)) ((e2 1 (by omega)).trans (hh 1).symm) ((e2 2 (by omega)).trans (hh 2).symm) ((e2 3 (by omega)).trans (hh 3).symm)
theorem decode_width {S:ByteArray} {i:Nat} (hi:i < S.size):1<=(Utf8.decode S i).2/\i+(Utf8.decode S i).2<=S.size:=by
 rw [decode_dec]
 have:=dec_width (a:=fun k=>(S.get! (i+k)).toNat) (p:=fun k=>decide (i+k < S.size)) (n:=S.size - i) (by omega) (by simp;omega) (by simp;omega) (by simp;omega)
 omega
theorem runesFrom_eq (S:ByteArray):∀ (n i:Nat) (rest:List UInt8) (acc:Array Value),S.data.toList.drop i=rest ->
  ∃ NS:List Int,runesL n rest=NS.map (.int .i32)/\Conv.runesFrom S n i acc=acc++(NS.map (Value.int .i32)).toArray
 | 0,i,rest,acc,h=>⟨[],rfl,by simp [Conv.runesFrom]⟩
 | n+1,i,[],acc,h=>by
  refine ⟨[],rfl,?_⟩
  have:¬ i < S.size:=by
   have:=congrArg List.length h
   simp at this
   omega
  rw [Conv.runesFrom,if_neg this];simp
 | n+1,i,b :: r,acc,h=>by
  have hi:i < S.size:=by
   have:=congrArg List.length h
   simp at this
   omega
  have hd:=decodeL_eq h hi
  have hr:S.data.toList.drop (i+(Utf8.decode S i).2)=(b :: r).drop (Utf8.decode S i).2:=by rw [<-h,List.drop_drop]
  obtain ⟨NS,h1,h2⟩:=runesFrom_eq S n (i+(Utf8.decode S i).2) _ (acc.push (.int .i32 (Int.ofNat (Utf8.decode S i).1))) hr
  refine ⟨Int.ofNat (Utf8.decode S i).1 :: NS,?_,?_⟩
  ·show AVal.int .i32 (Int.ofNat (decodeL (b :: r)).1) :: runesL n ((b :: r).drop (decodeL (b :: r)).2)=_
   rw [hd,h1];rfl
  ·rw [Conv.runesFrom,if_pos hi]
   simp only
   rw [h2]
   apply Array.ext'
   simp
section
variable {ρ:Rho} {h:AHeap} {w:World}
variable {T:PT AVal} {a:Act} {nt:Nat}
theorem ints_rel (k:IntKind) (NS:List Int):VRels ρ (NS.map (.int k)) (NS.map (Value.int k)):=by
 induction NS with
 | nil=>simp [VRels]
 | cons n NS ih=>exact .cons (by simp [VRel]) ih
theorem bytesOf_eq:∀ {vs:List AVal} {s:List UInt8},bytesOf vs=some s->∃ NS:List Int,vs=NS.map (.int .u8)/\s=NS.map fun n=>UInt8.ofNat n.toNat
 | [],s,e=>by
  have:some []=some s:=e
  cases this;exact ⟨[],rfl,rfl⟩
 | v :: vs,s,e=>by
  have e':onInt v (fun k n=>bi (sameK k .u8) (ob (bytesOf vs) fun s=>some (UInt8.ofNat n.toNat :: s)) none)=some s:=e
  simp only [onInt_eq,bi_some,ob_eq,Option.some.injEq] at e'
  obtain ⟨k,n,rfl,hk,s',h1,rfl⟩:=e'
  have:=sameK_iff hk
  subst this
  obtain ⟨NS,rfl,rfl⟩:=bytesOf_eq h1
  exact ⟨n :: NS,rfl,rfl⟩
theorem runesOf_eq:∀ {vs:List AVal} {s:List UInt8},runesOf vs=some s->∃ NS:List Int,vs=NS.map (.int .i32)/\s=(NS.map fun n=>(Utf8.encode n).data.toList).flatten
 | [],s,e=>by
  have:some []=some s:=e
  cases this;exact ⟨[],rfl,rfl⟩
 | v :: vs,s,e=>by
  have e':onInt v (fun k n=>bi (sameK k .i32) (ob (runesOf vs) fun s=>some ((Utf8.encode n).data.toList++s)) none)=some s:=e
  simp only [onInt_eq,bi_some,ob_eq,Option.some.injEq] at e'
  obtain ⟨k,n,rfl,hk,s',h1,rfl⟩:=e'
  have:=sameK_iff hk
  subst this
  obtain ⟨NS,rfl,rfl⟩:=runesOf_eq h1
  exact ⟨n :: NS,rfl,rfl⟩
theorem ints_vrels {k:IntKind}:∀ {NS:List Int} {VS:List Value},VRels ρ (NS.map (.int k)) VS->VS=NS.map (Value.int k)
 | [],VS,r=>by simpa [VRels] using r
 | n :: NS,_,r=>by
  obtain ⟨X,XS,rfl,r1,r2⟩:=r
  simp only [VRel] at r1
  rw [r1,ints_vrels r2];rfl
theorem foldl_push_list:∀ (ns:List Int) (s:ByteArray),(ns.foldl (fun r n=>r.push (UInt8.ofNat n.toNat)) s).data.toList=s.data.toList++ns.map fun n=>UInt8.ofNat n.toNat
 | [],s=>by simp
 | n :: ns,s=>by
  rw [List.foldl_cons,foldl_push_list ns]
  simp [ByteArray.push]
theorem foldl_runes_list:∀ (ns:List Int) (s:ByteArray),(ns.foldl (fun r n=>r++Utf8.encode n) s).data.toList=s.data.toList++(ns.map fun n=>(Utf8.encode n).data.toList).flatten
 | [],s=>by simp
 | n :: ns,s=>by
  rw [List.foldl_cons,foldl_runes_list ns]
  simp
theorem row_cells (sm:Sim P G ρ h w) {b off len cap z:Nat} {X:Value} (rx:VRel ρ (.slice b off len cap z) X) {vs:List AVal} (hv:h.read b off len=some vs) :
  ∃ A C VS,X=.slice (some A) len C/\(loadCells A len).run P w=.ok ⟨VS⟩ w/\VRels ρ vs VS:=by
 obtain ⟨L,A,C,hL,rfl,g1,g2,g3⟩:=rx
 obtain ⟨L',XS,hL',q1,q2,q3,_⟩:=read_cells sm hv
 rw [hL] at hL';cases hL'
 refine ⟨A,C,XS,rfl,?_,q1⟩
 rcases g3 with ⟨rfl,_⟩ | h0
 ·exact run_loadCells' q2 q3
 ·have:len=0:=by omega
  subst this
  have:XS=[]:=List.length_eq_zero_iff.1 q2
  subst this
  exact run_loadCells_list (P:=P) w A [] (fun j v hv=>by simp at hv)
theorem st_conv (sm:Sim P G ρ h w) {s d:TypeId} {c:Conv} (hc:cConv P s d=some c) {x:AVal} {X:Value} (rx:VRel ρ x X) {v:Option AVal} {h':AHeap} (hr:convA c x h=some (v,h')) :
  OutOk P G (vS (convert s d X)) ρ h w v h':=by
 unfold cConv at hc
 split at hc
 ·rename_i k1 k hs hd
  cases hc
  obtain ⟨k',n,rfl,hq⟩:=onInt_eq.1 hr
  obtain ⟨rfl,rfl⟩:=Prod.mk.inj (ret_eq.1 hq)
  simp only [VRel] at rx;subst rx
  exact OutOk.same sm (V:=.int k (k.wrap n)) (by simp [convert,run_underlying hs,run_underlying hd,Conv.intToInt]) (by simp [VRel,wrapF_eq])
 ·rename_i k1 hs hd
  cases hc
  obtain ⟨k',n,rfl,hq⟩:=onInt_eq.1 hr
  obtain ⟨rfl,rfl⟩:=Prod.mk.inj (ret_eq.1 hq)
  simp only [VRel] at rx;subst rx
  exact OutOk.same sm (V:=.string (Utf8.encode n)) (by simp [convert,run_underlying hs,run_underlying hd,Conv.intToString]) ⟨_,rfl,rfl⟩
 ·rename_i hs hd
  cases hc
  obtain ⟨t,rfl,hq⟩:=onStr_eq.1 hr
  obtain ⟨rfl,rfl⟩:=Prod.mk.inj (ret_eq.1 hq)
  obtain ⟨S,rfl,hS⟩:=id rx
  exact OutOk.same sm (V:=.string S) (by simp [convert,run_underlying hs,run_underlying hd]) rx
 ·rename_i e hs hd
  split at hc
  ·rename_i he
   cases hc
   obtain ⟨t,rfl,hq⟩:=onStr_eq.1 hr
   obtain ⟨rfl,rfl⟩:=Prod.mk.inj (ret_eq.1 hq)
   obtain ⟨S,rfl,hS⟩:=rx
   have hsz:S.size=t.length:=by rw [<-hS];simp
   have hrun:=run_bytes_of_string w s d e S hs hd he
   have hcap:S.size<=grownCap w S.size 0 e:=by simp [grownCap,Question.cut]
   have hrow:(bytesRow S (grownCap w S.size 0 e)).size=grownCap w S.size 0 e:=by
    have:S.data.size=S.size:=rfl
    simp [bytesRow,this];omega
   have hrel:VRels ρ (t.map fun b=>AVal.int .u8 b.toNat) ((bytesRow S (grownCap w S.size 0 e)).toList.take (t.map fun b=>AVal.int .u8 b.toNat).length):=by
    have e1:(bytesRow S (grownCap w S.size 0 e)).toList.take (t.map fun b=>AVal.int .u8 b.toNat).length=t.map fun b=>Value.int .u8 b.toNat:=by
     rw [List.length_map,<-hsz]
     simp only [bytesRow,Array.toList_append,Array.toList_map,hS]
     rw [List.take_append_of_le_length (by simp;omega),List.take_of_length_le (by simp;omega)]
    rw [e1]
    have:=ints_rel (ρ:=ρ) .u8 (t.map fun b=>(b.toNat:Int))
    rw [List.map_map,List.map_map] at this
    exact this
   have hlen:(t.map fun b=>AVal.int .u8 b.toNat).length=t.length:=by simp
   obtain ⟨p1,p2⟩:=row_push sm (m:=1) (e:=e) (h':=h.new (.cells (t.map fun b=>AVal.int .u8 b.toNat).length (ofList (t.map fun b=>AVal.int .u8 b.toNat)) 1)) (w':=w.drew.alloc (.cells (bytesRow S (grownCap w S.size 0 e)) e ((bytesRow S (grownCap w S.size 0 e)).size,(bytesRow S (grownCap w S.size 0 e)).size+1)))
    hrel (by rw [hrow];simp;omega) rfl (fun _=>.inl (Nat.le_refl _)) (fun e=>absurd e (by decide)) rfl rfl rfl none rfl new_get
   rw [hlen] at p1 p2
   refine OutOk.val hrun ⟨_,_,grownCap w S.size 0 e,Rho.put_same _ _ _,?_,Nat.le_refl _,by omega,.inl ⟨rfl,by rw [hrow];simp⟩⟩ p1 p2
   rw [hsz]
  ·rename_i he
   cases hc
   obtain ⟨t,rfl,hq⟩:=onStr_eq.1 hr
   obtain ⟨rfl,rfl⟩:=Prod.mk.inj (ret_eq.1 hq)
   obtain ⟨S,rfl,hS⟩:=rx
   have hsz:S.size=t.length:=by rw [<-hS];simp
   obtain ⟨NS,n1,n2⟩:=runesFrom_eq S S.size 0 t #[] (by simpa using hS)
   rw [hsz] at n1 n2
   rw [n1]
   have hn2:(Conv.runesFrom S S.size 0 #[])=(NS.map (Value.int .i32)).toArray:=by rw [hsz,n2];simp
   have hcap:NS.length<=grownCap w NS.length 0 e:=by simp [grownCap,Question.cut]
   let row:Array Value:=(NS.map (Value.int .i32)).toArray++Array.replicate (grownCap w NS.length 0 e - NS.length) (.int .i32 0)
   have hrow:row.size=grownCap w NS.length 0 e:=by simp [row];omega
   have hrun:(convert s d (.string S)).run P w=.ok (.slice (some ⟨w.heap.size,0,none⟩) NS.length (grownCap w NS.length 0 e)) (w.drew.alloc (.cells row e (0,0))):=by
    have hn3:(Conv.runesFrom S S.size 0 #[]).size=NS.length:=by rw [hn2];simp
    simp only [convert,Sem.run_bind,run_underlying hs,run_underlying hd,Result.andThen_ok,run_underlying he,Conv.stringToRunes,hn2,List.size_toArray,List.length_map]
    simp [Question.forced,newRow,grownCap,row]
   have hrel:VRels ρ (NS.map (AVal.int .i32)) (row.toList.take (NS.map (AVal.int .i32)).length):=by
    have e1:row.toList.take (NS.map (AVal.int .i32)).length=NS.map (Value.int .i32):=by
     simp only [row,Array.toList_append,List.length_map]
     rw [List.take_append_of_le_length (by simp),List.take_of_length_le (by simp)]
    rw [e1]
    exact ints_rel .i32 NS
   obtain ⟨p1,p2⟩:=row_push sm (m:=0) (e:=e) (h':=h.newCells (NS.map (AVal.int .i32))) (w':=w.drew.alloc (.cells row e (0,0)))
    hrel (by rw [hrow];simpa using hcap) rfl (fun _=>.inr rfl) (fun _=>rfl) rfl rfl rfl none rfl new_get
   refine OutOk.val hrun ⟨_,_,_,Rho.put_same _ _ _,?_,Nat.le_refl _,by simpa using hcap,.inl ⟨rfl,by rw [hrow];simp⟩⟩ p1 p2
   simp
  ·cases hc
 ·rename_i e hs hd
  split at hc
  ·rename_i he
   cases hc
   rcases onRow_eq.1 hr with ⟨rfl,hq⟩ | ⟨b,off,len,cap,z,rfl,hq⟩
   ·obtain ⟨rfl,rfl⟩:=Prod.mk.inj (ret_eq.1 hq)
    simp only [VRel] at rx;subst rx
    exact OutOk.same sm (V:=.string .empty) (by simp [convert,run_underlying hs,run_underlying hd,run_underlying he,Conv.bytesToString]) ⟨_,rfl,rfl⟩
   ·obtain ⟨vs,hv,hq⟩:=ob_eq.1 hq
    obtain ⟨t,ht,hq⟩:=ob_eq.1 hq
    obtain ⟨rfl,rfl⟩:=Prod.mk.inj (ret_eq.1 hq)
    obtain ⟨NS,rfl,rfl⟩:=bytesOf_eq ht
    obtain ⟨A,C,VS,rfl,h1,h2⟩:=row_cells (P:=P) sm rx hv
    have:=ints_vrels h2
    subst this
    refine OutOk.same sm (V:=.string (NS.foldl (fun r n=>r.push (UInt8.ofNat n.toNat)) ByteArray.empty)) ?_ ⟨_,rfl,by rw [foldl_push_list];rfl⟩
    rw [run_convert_bytes_string w s d e (some A) len C hs he hd]
    exact run_bytesToString w A len C NS h1
  ·rename_i he
   cases hc
   rcases onRow_eq.1 hr with ⟨rfl,hq⟩ | ⟨b,off,len,cap,z,rfl,hq⟩
   ·obtain ⟨rfl,rfl⟩:=Prod.mk.inj (ret_eq.1 hq)
    simp only [VRel] at rx;subst rx
    exact OutOk.same sm (V:=.string .empty) (by simp [convert,run_underlying hs,run_underlying hd,run_underlying he,Conv.runesToString]) ⟨_,rfl,rfl⟩
   ·obtain ⟨vs,hv,hq⟩:=ob_eq.1 hq
    obtain ⟨t,ht,hq⟩:=ob_eq.1 hq
    obtain ⟨rfl,rfl⟩:=Prod.mk.inj (ret_eq.1 hq)
    obtain ⟨NS,rfl,rfl⟩:=runesOf_eq ht
    obtain ⟨A,C,VS,rfl,h1,h2⟩:=row_cells (P:=P) sm rx hv
    have:=ints_vrels h2
    subst this
    refine OutOk.same sm (V:=.string (runesBytes NS)) ?_ ⟨_,rfl,by rw [runesBytes,foldl_runes_list];rfl⟩
    rw [run_convert_runes_string w s d e (some A) len C hs he hd]
    exact run_runesToString w A len C NS h1
  ·cases hc
 ·cases hc
theorem st_next (sm:Sim P G ρ h w) {x:AVal} {X:Value} (rx:VRel ρ x X) {v:Option AVal} {h':AHeap} (hr:nextA x h=some (v,h')) (ty:TypeId):OutOk P G (vS (Instr.next X true ty)) ρ h w v h':=by
 simp only [nextA,onPtr_eq,bi_some,ob_eq,onIter_eq] at hr
 obtain ⟨b,off,rfl,h0,y,hy,pos,rest,rfl,hr⟩:=hr
 have h0:=Nat.eq_of_beq_eq_true h0
 subst h0
 obtain ⟨L,hL,rfl⟩:=rx
 obtain ⟨L',hL',hb0,S,g1,g2,g3⟩:=sm.blk _ _ hy
 rw [hL] at hL';cases hL'
 have hlen:rest.length=S.size - pos:=by rw [<-g2];simp
 rw [hb0]
 cases rest with
 | nil =>
  obtain ⟨rfl,rfl⟩:=Prod.mk.inj (ret_eq.1 hr)
  have:¬ pos < S.size:=by simp at hlen;omega
  refine OutOk.same sm (V:=.tuple #[.bool false]) ?_ ⟨[.bool false],rfl,.one (by simp [VRel])⟩
  simp only [Instr.next,Sem.run_bind,getObj_run g1 rfl,Result.andThen_ok,this,if_false,Sem.run_pure]
 | cons c r =>
  obtain ⟨rfl,rfl⟩:=Prod.mk.inj (ret_eq.1 hr)
  have hi:pos < S.size:=by simp at hlen;omega
  have hd:=decodeL_eq g2 hi
  obtain ⟨d1,d2⟩:=decode_width hi
  rw [hd]
  have ht:=setObj_turned g1 (.stringIter S (pos+(Utf8.decode S pos).2))
  refine OutOk.val (V:=.tuple #[.bool true,goInt pos,.int .i32 (Utf8.decode S pos).1]) (w':={ w with heap:=w.heap.setIfInBounds L.blk (.stringIter S (pos+(Utf8.decode S pos).2)) }) ?_ ?_
   (Sim.write sm hy trivial hL ht.other ⟨hb0,S,ht.at_,by rw [<-g2,List.drop_drop],d2⟩) (Ext.write sm hy trivial hL ht.other ht.size ht.os ht.tape ht.output)
  ·simp only [Instr.next,Sem.run_bind,getObj_run g1 rfl,Result.andThen_ok,hi,if_true,setObj_run g1 rfl,Sem.run_pure]
  ·exact ⟨_,rfl,.cons (by simp [VRel]) (.cons (by simp [VRel,goInt]) (.one (by simp [VRel])))⟩
end
end Go.Ab
namespace Go.Ab
variable {P:Program} {G:List Nat}
def StepOk (P:Program) (G:List Nat) (sem:Sem Next) (ρ:Rho) (h:AHeap) (w:World) (q:Ko):Prop :=
 ∃ nx V w' ρ' v h',sem.run P w=.ok nx w'/\(nx=.value V\/(nx=.skip/\V=undef))/\(∀ x,v=some x->VRel ρ' x V)/\Sim P G ρ' h' w'/\Ext ρ h w ρ' h' w'/\q v h'
section
variable {ρ:Rho} {h:AHeap} {w:World}
theorem OutOk.step {sem:Sem Next} {r:Out} {q:Ko} (hr:opk r q) (H:∀ v h',r=some (v,h')->OutOk P G sem ρ h w v h'):StepOk P G sem ρ h w q:=by
 obtain ⟨v,h',e,hq⟩:=opk_iff.1 hr
 obtain ⟨nx,V,w',ρ',h1,h2,h3,h4,h5⟩:=H v h' e
 exact ⟨nx,V,w',ρ',v,h',h1,h2,h3,h4,h5,hq⟩
theorem allK_mem {α:Type} {f:α->Prop}:∀ {l:List α},allK f l->∀ c∈l,f c
 | [],_,c,hc=>by cases hc
 | [x],h,c,hc=>by
  have h:f x:=h
  simp at hc;subst hc;exact h
 | x :: y :: l,h,c,hc=>by
  have h:f x/\allK f (y :: l):=h
  rcases List.mem_cons.1 hc with rfl | hc
  ·exact h.1
  ·exact allK_mem h.2 c hc
theorem ERels.filter {p:Nat->Bool}:∀ {es:List AEntry} {ES:List MapEntry},ERels ρ es ES->ERels ρ (es.filter fun e=>p e.born) (ES.filter fun e=>p e.born)
 | [],_,r=>by simp only [ERels] at r;subst r;simp [ERels]
 | e :: es,_,r=>by
  obtain ⟨E,ES,rfl,r1,r2⟩:=r
  have:=r1.2.2
  simp only [List.filter_cons,this]
  split
  ·exact ⟨E,_,rfl,r1,r2.filter⟩
  ·exact r2.filter
theorem ERels.append:∀ {es es':List AEntry} {ES ES':List MapEntry},ERels ρ es ES->ERels ρ es' ES'->ERels ρ (es++es') (ES++ES')
 | [],_,_,_,r,r'=>by simp only [ERels] at r;subst r;simpa using r'
 | e :: es,es',_,ES',r,r'=>by obtain ⟨E,ES,rfl,r1,r2⟩:=r;exact ⟨E,ES++ES',rfl,r1,r2.append r'⟩
theorem ERels.mem:∀ {es:List AEntry} {ES:List MapEntry},ERels ρ es ES->∀ {E:MapEntry},E∈ES->∃ e∈es,ERel ρ e E
 | [],_,r,E,h=>by simp only [ERels] at r;subst r;cases h
 | e :: es,_,r,E,h=>by
  obtain ⟨X,XS,rfl,r1,r2⟩:=r
  rcases List.mem_cons.1 h with rfl | h
  ·exact ⟨e,by simp,r1⟩
  ·obtain ⟨e',h1,h2⟩:=r2.mem h;exact ⟨e',by simp [h1],h2⟩
theorem run_choose_some (n:Nat) (hn:0 < n) (w:World):∃ j w',(choose (.mapNext n)).run P w=.ok j w'/\j < n/\w'.heap=w.heap/\w'.os=w.os/\w'.tape=w.tape/\w'.output=w.output:=by
 by_cases hf:(Question.mapNext n).forced=true
 ·exact ⟨0,w,by simp only [choose,Sem.run,hf,if_true],hn,rfl,rfl,rfl,rfl⟩
 ·exact ⟨_,{ w with drawn:=w.drawn+1 },by simp only [choose,Sem.run,hf];rfl,Nat.mod_lt _ hn,rfl,rfl,rfl,rfl⟩
theorem st_nextM (sm:Sim P G ρ h w) {x:AVal} {X:Value} (rx:VRel ρ x X) {q:Ko} (hr:nextMA x h q) (ty:TypeId):StepOk P G (vS (Instr.next X false ty)) ρ h w q:=by
 unfold nextMA at hr
 generalize ho:(onPtr x fun b off=>bi (Nat.beq off 0) (ob (h.get b) fun y=>onMIter y fun m since seen last=>oe m (some (q (some (.tup [.bool false])) h)) fun m =>
  ob (h.get m) fun z=>onEntries z fun _ es clock=>bi (!seen.isEmpty && !es.isEmpty && es.all (fun e=>Nat.ble last e.born)) none
   (some (allK (stepped h b m since seen clock q) (candidates es since seen)))) none)=o at hr
 cases o with
 | none=>exact hr.elim
 | some p =>
  have hr:p:=hr
  simp only [onPtr_eq,bi_some,ob_eq,onMIter_eq] at ho
  obtain ⟨b,off,rfl,h0,y,hy,m,since,seen,last,rfl,ho⟩:=ho
  have h0:=Nat.eq_of_beq_eq_true h0
  subst h0
  obtain ⟨L,hL,rfl⟩:=rx
  obtain ⟨L',hL',hb0,M,g1,g2⟩:=sm.blk _ _ hy
  rw [hL] at hL';cases hL'
  rw [hb0]
  have fin:∀ ρ':Rho,VRel ρ' (.tup [.bool false]) (.tuple #[.bool false]):=fun ρ'=>⟨[.bool false],rfl,.one (by simp [VRel])⟩
  cases m with
  | none =>
   have g2:M=none:=g2
   subst g2
   have ho:some (q (some (.tup [.bool false])) h)=some p:=ho
   cases ho
   refine ⟨_,_,w,ρ,_,h,?_,.inl rfl,fun y hy=>by cases hy;exact fin ρ,sm,Ext.refl _ _ _,hr⟩
   simp only [Instr.next,vS,Sem.run_bind,getObj_run g1 rfl,Result.andThen_ok,Sem.run_pure]
  | some mb =>
   obtain ⟨K,hK,hK0,rfl⟩:=g2
   have ho:(ob (h.get mb) fun z=>onEntries z fun _ es clock=>bi (!seen.isEmpty && !es.isEmpty && es.all (fun e=>Nat.ble last e.born)) none
    (some (allK (stepped h b mb since seen clock q) (candidates es since seen))))=some p:=ho
   simp only [ob_eq,onEntries_eq,bi_some',Option.some.injEq] at ho
   obtain ⟨z,hz,kt,es,clock,rfl,hgone,rfl⟩:=ho
   obtain ⟨K',hK',_,hki,ES,k1,k2⟩:=sm.blk _ _ hz
   rw [hK] at hK';cases hK'
   have hall:=allK_mem hr
   have hb1:∀ n:Nat,decide (n < since)=Nat.ble (n+1) since:=fun n=>by rw [nble];congr 1
   have hb2:∀ n:Nat,decide (n ≥ since)=Nat.ble since n:=fun n=>by rw [nble]
   have hseen:∀ n:Nat,(⟨seen.reverse⟩:Array Nat).contains n=seen.contains n:=fun n=>by simp
   have hold:((⟨ES⟩:Array MapEntry).filter fun e=>!(⟨seen.reverse⟩:Array Nat).contains e.born).filter (·.born < since)=⟨ES.filter fun e=>!seen.contains e.born && Nat.ble (e.born+1) since⟩:=by
    simp only [hseen];apply Array.ext';simp [Bool.and_comm,hb1]
   have hnew:((⟨ES⟩:Array MapEntry).filter fun e=>!(⟨seen.reverse⟩:Array Nat).contains e.born).filter (·.born ≥ since)=⟨ES.filter fun e=>!seen.contains e.born && Nat.ble since e.born⟩:=by
    simp only [hseen];apply Array.ext';simp [Bool.and_comm,hb2]
   have hg:(!(⟨seen.reverse⟩:Array Nat).isEmpty && !(⟨ES⟩:Array MapEntry).isEmpty && (⟨ES⟩:Array MapEntry).all (·.born ≥ last))=false:=by
    have hall2:∀ {es:List AEntry} {ES:List MapEntry},ERels ρ es ES->(ES.all (·.born ≥ last))=es.all fun e=>Nat.ble last e.born:=by
     intro es
     induction es with
     | nil=>intro ES r;simp only [ERels] at r;subst r;rfl
     | cons e es ih =>
      intro ES r
      obtain ⟨E,ES,rfl,r1,r2⟩:=r
      rw [List.all_cons,List.all_cons,ih r2,r1.2.2,nble]
    have he:ES.isEmpty=es.isEmpty:=by
     have:=k2.length
     cases es<;>cases ES<;>simp at this ⊢
    rw [<-hgone,<-hall2 k2,<-he]
    simp
   have ro:=k2.filter (p:=fun n=>!seen.contains n && Nat.ble (n+1) since)
   have rn:=k2.filter (p:=fun n=>!seen.contains n && Nat.ble since n)
   generalize hOLD:(ES.filter fun e=>!seen.contains e.born && Nat.ble (e.born+1) since)=OLD at hold ro
   generalize hNEW:(ES.filter fun e=>!seen.contains e.born && Nat.ble since e.born)=NEW at hnew rn
   let C:Array (Option MapEntry):=(if (⟨OLD⟩:Array MapEntry).isEmpty then #[none] else #[])++((⟨OLD⟩:Array MapEntry)++⟨NEW⟩).map some
   have hC:0 < C.size:=by
    simp only [C]
    cases OLD<;>simp
   obtain ⟨j,w1,c1,c2,c3,c4,c5,c6⟩:=run_choose_some (P:=P) C.size hC w
   have g1':w1.heap[L.blk]?=some (.mapIter (some K.blk) since ⟨seen.reverse⟩ last):=by rw [c3];exact g1
   have sm1:=sm.same (w':=w1) c3
   have x1:Ext ρ h w ρ h w1:=Ext.same c3 c4 c5 c6
   have hlenO:=ro.length
   have hrun:∀ (nx:Value) (w':World),(match C[j]? with
     | some (some e)=>do
      setObj L.blk (.mapIter (some K.blk) since ((⟨seen.reverse⟩:Array Nat).push e.born) clock)
      pure (.tuple #[.bool true,e.key,e.val])
     | some none=>pure (.tuple #[.bool false])
     | none=>stuck "Next: no such candidate":Sem Value).run P w1=.ok nx w' ->
     (vS (Instr.next (.pointer (some ⟨L.blk,0,none⟩)) false ty)).run P w=.ok (.value nx) w':=by
    intro nx w' hm
    simp only [Instr.next,vS,Sem.run_bind,getObj_run g1 rfl,Result.andThen_ok,getObj_run k1 rfl,hg,Bool.false_eq_true,if_false,hold,hnew]
    rw [c1]
    simp only [Result.andThen_ok]
    exact congrArg (fun r:Result Value=>r.andThen fun a w'=>Sem.run P (pure (Next.value a)) w') hm
   have hCj:C[j]?=some C[j]:=Array.getElem?_eq_getElem c2
   cases hc:C[j] with
   | none =>
    have hem:OLD=[]:=by
     have hmem:(none:Option MapEntry)∈C:=by rw [<-hc];exact Array.getElem_mem c2
     simp only [C] at hmem
     cases OLD with
     | nil=>rfl
     | cons e l=>simp at hmem
    have hin:(none:Option AEntry)∈candidates es since seen:=by
     unfold candidates
     rw [hem] at hlenO
     rw [List.length_eq_zero_iff.1 hlenO]
     simp
    refine ⟨_,_,w1,ρ,_,h,hrun _ w1 (by rw [hCj,hc];rfl),.inl rfl,fun y hy=>by cases hy;exact fin ρ,sm1,x1,hall _ hin⟩
   | some E =>
    have hmem:E∈OLD++NEW:=by
     have hmem:(some E:Option MapEntry)∈C:=by rw [<-hc];exact Array.getElem_mem c2
     simp only [C] at hmem
     cases OLD with
     | nil=>simpa using hmem
     | cons e l=>simpa using hmem
    obtain ⟨e,he,r1,r2,r3⟩:=(ro.append rn).mem hmem
    have hin:some e∈candidates es since seen:=by
     unfold candidates
     exact List.mem_append_right _ (List.mem_map.2 ⟨e,he,rfl⟩)
    have hq:=hall _ hin
    have hq:q (some (.tup [.bool true,e.key,e.val])) (h.set b (.miter (some mb) since (e.born :: seen) clock)):=hq
    have ht:=setObj_turned g1' (.mapIter (some K.blk) since ((⟨seen.reverse⟩:Array Nat).push E.born) clock)
    refine ⟨_,.tuple #[.bool true,E.key,E.val],{ w1 with heap:=w1.heap.setIfInBounds L.blk (.mapIter (some K.blk) since ((⟨seen.reverse⟩:Array Nat).push E.born) clock) },ρ,_,_,hrun _ _ ?_,.inl rfl,
     fun y hy=>by cases hy;exact ⟨_,rfl,.cons (by simp [VRel]) (.cons r1 (.one r2))⟩,Sim.write (x:=.miter (some mb) since (e.born :: seen) clock) sm1 hy trivial hL ht.other ⟨hb0,some K.blk,?_,K,hK,hK0,rfl⟩,x1.trans (Ext.write (x:=.miter (some mb) since (e.born :: seen) clock) sm1 hy trivial hL ht.other ht.size ht.os ht.tape ht.output),hq⟩
    ·rw [hCj,hc]
     simp only [Sem.run_bind,setObj_run g1' rfl,Result.andThen_ok,Sem.run_pure]
    ·rw [ht.at_,r3]
     simp
end
end Go.Ab
namespace Go.Ab
variable {P:Program} {G:List Nat}
section
variable {ρ:Rho} {h:AHeap} {w:World} {T:PT AVal} {a:Act} {nt:Nat} {cf:CallF} {q:Ko}
def StepCalls (P:Program) (sem:Sem Next) (ρ:Rho) (h:AHeap) (w:World) (cf:CallF) (q:Ko):Prop :=
 ∃ f args VS,sem.run P w=.ok (.enter f ⟨VS⟩) w/\VRels ρ args VS/\cf f args h fun v h=>q (some v) h
theorem callFunc_run {f:FuncId} (he:Enters P f) (args:Array Value) (w:World):(callFunc f args).run P w=.ok (.enter f args) w:=by
 obtain ⟨fn,h1,h2,h3⟩:=he
 have h2':¬ fn.body=none:=by intro e;simp [e] at h2
 have h3':¬ fn.name = "runtime.NumGoroutine":=by simpa using h3
 simp [callFunc,program,Sem.run,h1,h3',h2']
theorem st_callV (hcf:∀ f args h k,cf f args h k->Enters P f) {c:Call} {f:Operand} (hc:c.callee=.value f) {g:AVal} {as:List AVal}
  (hg:VRel ρ g (a.eval f)) (has:VRels ρ as (c.args.toList.map a.eval)) (hr:callV cf g as h q) (ty:TypeId) :
  StepCalls P (do let d <-resolve a.eval c ty;invoke d.target d.args) ρ h w cf q:=by
 unfold callV at hr
 obtain ⟨p,hp,hr⟩:=obP_iff.1 hr
 simp only [onFunc_eq,Option.some.injEq] at hp
 obtain ⟨fn,first,caps,rfl,rfl⟩:=hp
 obtain ⟨FS,CS,e,r1,r2⟩:=hg
 have hcall:=hcf _ _ _ _ hr
 refine ⟨fn,first++as++caps,FS++c.args.toList.map a.eval++CS,?_,(r1.append has).append r2,hr⟩
 have e1:(⟨FS⟩++c.args.map a.eval++⟨CS⟩:Array Value)=⟨FS++c.args.toList.map a.eval++CS⟩:=by apply Array.ext';simp
 simp only [resolve,hc,e,Deferred.ofValue,Sem.run_bind,Sem.run_pure,Result.andThen_ok,invoke]
 rw [callFunc_run hcall,e1]
theorem map_mk {α β:Type} (l:List α) (f:α->β):(⟨l⟩:Array α).map f=⟨l.map f⟩:=by apply Array.ext';simp
theorem st_builtin (sm:Sim P G ρ h w) (hT:TRel ρ T a.tmps) {b:Builtin} {ts:List TypeId} {args:List Operand} (hs:step (cBuiltin P G nt b ts args) cf T h q) (ty:TypeId) (consts:Array Bool) :
  StepOk P G (builtin b ⟨ts⟩ ty consts ((⟨args⟩:Array Operand).map a.eval)) ρ h w q:=by
 unfold cBuiltin at hs
 rw [map_mk]
 split at hs
 ·rename_i t x
  split at hs
  ·rename_i hu;exact OutOk.step hs fun v h' hr=>st_len sm hT (k:=.str) hu hr
  ·rename_i n e hu;exact OutOk.step hs fun v h' hr=>st_len sm hT (k:=.const n) (.inl ⟨e,hu⟩) hr
  ·rename_i b hu
   split at hs
   ·rename_i n e hb;exact OutOk.step hs fun v h' hr=>st_len sm hT (k:=.const n) (.inr ⟨b,e,hu,hb⟩) hr
   ·exact hs.elim
  ·rename_i e hu;exact OutOk.step hs fun v h' hr=>st_len sm hT (k:=.row) ⟨e,hu⟩ hr
  ·rename_i kt e hu;exact OutOk.step hs fun v h' hr=>st_len sm hT (k:=.map) ⟨kt,e,hu⟩ hr
  ·exact hs.elim
 ·rename_i t u s x
  split at hs
  ·exact hs.elim
  ·rename_i e d hd hu hx
   split at hs
   ·rename_i sz z hz
    refine OutOk.step hs fun v h' hr=>?_
    obtain ⟨p,hp,hr⟩:=ob_eq.1 hr
    obtain ⟨r,hq,hr⟩:=ob_eq.1 hr
    exact st_append sm hu hx (fun k e=>hd _ e) hz (opd_rel sm hT hp) (opd_rel sm hT hq) hr ty
   ·exact hs.elim
  ·exact hs.elim
 ·rename_i x y;exact OutOk.step hs fun v h' hr=>st_minmax (less:=true) (ts:=⟨ts⟩) (ty:=ty) sm hT hr
 ·rename_i x y;exact OutOk.step hs fun v h' hr=>st_minmax (less:=false) (ts:=⟨ts⟩) (ty:=ty) sm hT hr
 ·rename_i t ts m k
  split at hs
  ·rename_i kt et hu
   split at hs
   ·rename_i K hK
    refine OutOk.step hs fun v h' hr=>?_
    obtain ⟨p,hp,hr⟩:=ob_eq.1 hr
    obtain ⟨r,hq,hr⟩:=ob_eq.1 hr
    obtain ⟨X,w',h1,h2,h3,rfl,rfl⟩:=delete_run sm hu hK (opd_rel sm hT hp) (opd_rel sm hT hq) hr ty (ts:=ts)
    exact OutOk.val h1 ⟨[],rfl,by simp [VRels]⟩ h2 h3
   ·exact hs.elim
  ·exact hs.elim
 ·rename_i t x
  split at hs
  ·rename_i e hu
   split at hs
   ·rename_i sz z hz
    refine OutOk.step hs fun v h' hr=>?_
    obtain ⟨p,hp,hr⟩:=ob_eq.1 hr
    exact st_clear sm hu hz (opd_rel sm hT hp) hr ty
   ·exact hs.elim
  ·exact hs.elim
 ·rename_i t ts d x
  split at hs
  ·rename_i e hu
   split at hs
   ·rename_i sz hz
    refine OutOk.step hs fun v h' hr=>?_
    obtain ⟨p,hp,hr⟩:=ob_eq.1 hr
    obtain ⟨r,hq,hr⟩:=ob_eq.1 hr
    exact st_copy sm hu hz (opd_rel sm hT hp) (opd_rel sm hT hq) hr ts ty
   ·exact hs.elim
  ·exact hs.elim
 ·exact hs.elim
theorem step_sound (o:Oper) (sm:Sim P G ρ h w) (hT:TRel ρ T a.tmps) (hcf:∀ f args h k,cf f args h k->Enters P f) (hs:step (cOp P G nt o.op) cf T h q) :
  StepOk P G (execOp a.eval o) ρ h w q\/StepCalls P (execOp a.eval o) ρ h w cf q:=by
 obtain ⟨dst,op,ty,pos,after,guard⟩:=o
 simp only at hs
 cases op with
 | move x=>exact .inl (OutOk.step hs fun v h' hr=>st_move sm hT hr)
 | assign x=>exact .inl (OutOk.step hs fun v h' hr=>st_move sm hT hr)
 | pick c x y=>exact .inl (OutOk.step hs fun v h' hr=>st_pick sm hT hr)
 | alloc t =>
  simp only [cOp] at hs
  split at hs
  ·rename_i z hz
   have hs:opk (ret (h.newCells z.cells) (.ptr h.next 0)) q:=hs
   exact .inl (OutOk.step hs fun v h' hr=>st_new sm hz hr)
  ·exact hs.elim
 | box t x=>exact .inl (OutOk.step hs fun v h' hr=>st_box sm hT hr)
 | build t parts =>
  simp only [cOp] at hs
  split at hs
  ·rename_i z fs hz hu
   split at hs
   ·rename_i pl hpl
    split at hs
    ·rename_i ps hps;exact .inl (OutOk.step hs fun v h' hr=>st_build_struct sm hT hz hu hpl hps hr)
    ·exact hs.elim
   ·exact hs.elim
  ·rename_i z n e hz hu
   split at hs
   ·rename_i s hsz
    split at hs
    ·rename_i ps hps;exact .inl (OutOk.step hs fun v h' hr=>st_build_array sm hT hz hu hsz hps hr)
    ·exact hs.elim
   ·exact hs.elim
  ·exact hs.elim
 | buildSlice t len parts =>
  simp only [cOp] at hs
  split at hs
  ·rename_i e hu
   split at hs
   ·rename_i s z hz
    cases hb:Nat.ble (len*s) 65536 with
    | false=>rw [hb] at hs;exact hs.elim
    | true =>
     rw [hb] at hs
     simp only [cond_true] at hs
     split at hs
     ·rename_i ps hps;exact .inl (OutOk.step hs fun v h' hr=>st_buildSlice sm hT hu hz (Nat.le_of_ble_eq_true hb) hps hr)
     ·exact hs.elim
   ·exact hs.elim
  ·exact hs.elim
 | load t x =>
  simp only [cOp] at hs
  split at hs
  ·rename_i n hsh;exact .inl (OutOk.step hs fun v h' hr=>st_load sm hT hsh hr)
  ·rename_i hsh;exact .inl (OutOk.step hs fun v h' hr=>st_load sm hT hsh hr)
  ·exact hs.elim
 | store t x y =>
  simp only [cOp] at hs
  split at hs
  ·rename_i n hsz;exact .inl (OutOk.step hs fun v h' hr=>st_store sm hT hsz hr)
  ·exact hs.elim
 | nilCheck x =>
  refine .inl (OutOk.step hs fun v h' hr=>?_)
  obtain ⟨z,rfl,rfl,r,hx⟩:=st_nilCheck sm hT hr
  refine ⟨.value (a.eval x),a.eval x,w,ρ,?_,.inl rfl,fun y hy=>by cases hy;exact r,sm,Ext.refl _ _ _⟩
  rcases hx with ⟨A,e⟩ | ⟨f,A,B,e⟩ | ⟨A,n,c,e⟩
  ·simp only [execOp,e];rfl
  ·simp only [execOp,e];rfl
  ·simp only [execOp,e];rfl
 | binOp op t x y yt=>exact .inl (OutOk.step hs fun v h' hr=>st_bin sm hT hr)
 | unOp op t x=>exact .inl (OutOk.step hs fun v h' hr=>st_un sm hT hr)
 | convert s d x =>
  simp only [cOp] at hs
  split at hs
  ·rename_i c hc
   refine .inl (OutOk.step hs fun v h' hr=>?_)
   obtain ⟨p,hp,hr⟩:=ob_eq.1 hr
   exact st_conv sm hc (opd_rel sm hT hp) hr
  ·exact hs.elim
 | makeFunc fn first caps =>
  cases fn with
  | func f=>exact .inl (OutOk.step hs fun v h' hr=>st_makeFunc sm hT hr)
  | _=>exact hs.elim
 | makeMap t r =>
  simp only [cOp] at hs
  split at hs
  ·rename_i kt et hu
   cases r with
   | none =>
    have hs:opk (makeMapA kt T h none) q:=hs
    exact .inl (OutOk.step hs fun v h' hr=>st_makeMap sm hT (nt:=nt) (r:=none) hu hr)
   | some x =>
    have hs:opk (makeMapA kt T h (some (cOpd G nt x))) q:=hs
    exact .inl (OutOk.step hs fun v h' hr=>st_makeMap sm hT (r:=some x) hu hr)
  ·exact hs.elim
 | makeSlice t l c =>
  simp only [cOp] at hs
  split at hs
  ·rename_i e hu
   split at hs
   ·rename_i s z hz
    refine .inl (OutOk.step hs fun v h' hr=>?_)
    obtain ⟨p,hp,hr⟩:=ob_eq.1 hr
    obtain ⟨r,hq,hr⟩:=ob_eq.1 hr
    exact st_makeSlice sm hu hz (opd_rel sm hT hp) (opd_rel sm hT hq) hr
   ·exact hs.elim
  ·exact hs.elim
 | slice t x lo hi mx =>
  simp only [cOp] at hs
  split at hs
  ·rename_i hu;exact .inl (OutOk.step hs fun v h' hr=>st_slice_str sm hT hu hr)
  ·rename_i e hu
   split at hs
   ·rename_i s hsz;exact .inl (OutOk.step hs fun v h' hr=>st_slice_row sm hT hu hsz hr)
   ·exact hs.elim
  ·rename_i n e hu
   split at hs
   ·rename_i s hsz;exact .inl (OutOk.step hs fun v h' hr=>st_slice_arr sm hT hu hsz hr)
   ·exact hs.elim
  ·exact hs.elim
 | fieldAddr t x f =>
  simp only [cOp] at hs
  split at hs
  ·rename_i fs hu
   split at hs
   ·rename_i fd hf
    split at hs
    ·rename_i k hsz;exact .inl (OutOk.step hs fun v h' hr=>st_fieldAddr sm hT hu hf hsz hr)
    ·exact hs.elim
   ·exact hs.elim
  ·exact hs.elim
 | field t x f =>
  simp only [cOp] at hs
  split at hs
  ·rename_i fs hu
   split at hs
   ·rename_i fd hf
    split at hs
    ·rename_i s hsh;exact .inl (OutOk.step hs fun v h' hr=>st_field sm hT hu hf hsh hr)
    ·exact hs.elim
   ·exact hs.elim
  ·exact hs.elim
 | indexAddr t x i =>
  simp only [cOp] at hs
  split at hs
  ·rename_i e hu
   split at hs
   ·rename_i s hsz;exact .inl (OutOk.step hs fun v h' hr=>st_indexAddrS sm hT hu hsz hr)
   ·exact hs.elim
  ·rename_i n e hu
   split at hs
   ·rename_i s hsz;exact .inl (OutOk.step hs fun v h' hr=>st_indexAddrA sm hT hu hsz hr)
   ·exact hs.elim
  ·exact hs.elim
 | index t x i =>
  simp only [cOp] at hs
  split at hs
  ·rename_i n e hu
   split at hs
   ·rename_i s k hsh hsz;exact .inl (OutOk.step hs fun v h' hr=>st_indexA sm hT hu hsz hsh hr)
   ·exact hs.elim
  ·rename_i hu;exact .inl (OutOk.step hs fun v h' hr=>st_indexS sm hT hu hr)
  ·exact hs.elim
 | lookup t x k ok =>
  simp only [cOp] at hs
  split at hs
  ·rename_i kt et hu
   split at hs
   ·rename_i K z hK hz
    refine .inl (OutOk.step hs fun v h' hr=>?_)
    simp only [retO_eq,ob_eq,Prod.mk.injEq] at hr
    obtain ⟨y,⟨p,hp,r,hq,hl⟩,rfl,rfl⟩:=hr
    obtain ⟨X,h1,h2⟩:=lookup_run sm hu hK hz (opd_rel sm hT hp) (opd_rel sm hT hq) hl
    exact OutOk.same sm h1 h2
   ·exact hs.elim
  ·exact hs.elim
 | mapUpdate t m k x =>
  simp only [cOp,cOp.up] at hs
  split at hs
  ·rename_i kt et hu
   split at hs
   ·rename_i K hK
    refine .inl (OutOk.step hs fun v h' hr=>?_)
    obtain ⟨p,hp,hr⟩:=ob_eq.1 hr
    obtain ⟨r,hq,hr⟩:=ob_eq.1 hr
    obtain ⟨y,hy,hr⟩:=ob_eq.1 hr
    obtain ⟨w',h1,h2,h3,rfl⟩:=update_run sm hu hK (opd_rel sm hT hp) (opd_rel sm hT hq) (opd_rel sm hT hy) hr
    exact OutOk.unit h1 h2 h3
   ·exact hs.elim
  ·exact hs.elim
 | insert t m k x =>
  simp only [cOp,cOp.up] at hs
  split at hs
  ·rename_i kt et hu
   split at hs
   ·rename_i K hK
    refine .inl (OutOk.step hs fun v h' hr=>?_)
    obtain ⟨p,hp,hr⟩:=ob_eq.1 hr
    obtain ⟨r,hq,hr⟩:=ob_eq.1 hr
    obtain ⟨y,hy,hr⟩:=ob_eq.1 hr
    obtain ⟨w',h1,h2,h3,rfl⟩:=update_run sm hu hK (opd_rel sm hT hp) (opd_rel sm hT hq) (opd_rel sm hT hy) hr
    exact OutOk.unit h1 h2 h3
   ·exact hs.elim
  ·exact hs.elim
 | mapEntry t m k =>
  simp only [cOp] at hs
  split at hs
  ·rename_i kt et hu
   split at hs
   ·rename_i K z hK hz
    refine .inl (OutOk.step hs fun v h' hr=>?_)
    obtain ⟨p,hp,hr⟩:=ob_eq.1 hr
    obtain ⟨r,hq,hr⟩:=ob_eq.1 hr
    obtain ⟨w',X,r,h1,h2,h3,rfl,h4⟩:=mapEntry_run sm hu hK hz (opd_rel sm hT hp) (opd_rel sm hT hq) hr
    exact OutOk.val h1 h4 h2 h3
   ·exact hs.elim
  ·exact hs.elim
 | entryStore t m k x =>
  refine .inl (OutOk.step hs fun v h' hr=>?_)
  obtain ⟨p,hp,hr⟩:=ob_eq.1 hr
  obtain ⟨r,hq,hr⟩:=ob_eq.1 hr
  obtain ⟨y,hy,hr⟩:=ob_eq.1 hr
  obtain ⟨w',h1,h2,h3,rfl⟩:=entryStore_run sm (opd_rel sm hT hp) (opd_rel sm hT hq) (opd_rel sm hT hy) hr
  exact OutOk.unit h1 h2 h3
 | range t x =>
  simp only [cOp] at hs
  split at hs
  ·rename_i hu;exact .inl (OutOk.step hs fun v h' hr=>st_range sm hT hu hr)
  ·rename_i kt et hu;exact .inl (OutOk.step hs fun v h' hr=>st_rangeM sm hT hu hr)
  ·exact hs.elim
 | next it s =>
  cases s with
  | true =>
   refine .inl (OutOk.step hs fun v h' hr=>?_)
   obtain ⟨p,hp,hr⟩:=ob_eq.1 hr
   exact st_next sm (opd_rel sm hT hp) hr ty
  | false =>
   obtain ⟨p,hp,hr⟩:=obP_iff.1 (show obP ((cOpd G nt it).get T) (fun a=>nextMA a h q) from hs)
   exact .inl (st_nextM sm (opd_rel sm hT hp) hr ty)
 | entry it=>exact .inl (OutOk.step hs fun v h' hr=>st_entry sm hT hr)
 | extract t i=>exact .inl (OutOk.step hs fun v h' hr=>st_extract sm hT hr)
 | call c =>
  simp only [cOp] at hs
  split at hs
  ·rename_i b hc
   left
   have he:execOp a.eval ⟨dst,.call c,ty,pos,after,guard⟩=builtin b c.argTypes ty (c.args.map fun | .const _=>true | _=>false) (c.args.map a.eval):=by
    show (do let d <-resolve a.eval c ty;invoke d.target d.args)=_
    simp only [resolve,hc]
    rfl
   rw [he]
   generalize (c.args.map fun | .const _=>true | _=>false)=consts
   obtain ⟨callee,⟨args⟩,⟨ts⟩⟩:=c
   exact st_builtin sm hT hs ty consts
  ·rename_i f hc
   right
   split at hs
   ·have hs:obP (getAll T (c.args.toList.map (cOpd G nt))) (fun as=>callA cf _ as h q):=hs
    obtain ⟨as,has,hr⟩:=obP_iff.1 hs
    exact st_callV (g:=.func _ [] []) (as:=as) hcf hc ⟨[],[],rfl,by simp [VRels],by simp [VRels]⟩ (getAll_rel sm hT has) (by
     show obP (some (_,[]++as++[])) _
     rw [List.nil_append,List.append_nil];exact hr) ty
   ·have hs:obP ((cOpd G nt f).get T) (fun g=>obP (getAll T (c.args.toList.map (cOpd G nt))) fun as=>callV cf g as h q):=hs
    obtain ⟨g,hg,hs⟩:=obP_iff.1 hs
    obtain ⟨as,has,hr⟩:=obP_iff.1 hs
    exact st_callV hcf hc (opd_rel sm hT hg) (getAll_rel sm hT has) hr ty
  ·exact hs.elim
 | _=>exact hs.elim
end
end Go.Ab
namespace Go.Ab
variable {P:Program} {G:List Nat}
section
variable {ρ:Rho} {h:AHeap} {w:World} {T:PT AVal} {a:Act} {nt:Nat} {cf:CallF} {q:Ko}
theorem oper_wp (o:Oper) (sm:Sim P G ρ h w) (hT:TRel ρ T a.tmps) (hcf:∀ f args h k,cf f args h k->cfP P G f args h k) (hs:step (cOp P G nt o.op) cf T h q) {next:Act->World->Prop} {Q:Exit->Act->World->Prop}
  (H:∀ V v ρ' h' w',(∀ x,v=some x->VRel ρ' x V)->Sim P G ρ' h' w'->Ext ρ h w ρ' h' w'->q v h'->next (a.put o.dst V) w'):o.wp P a w next Q:=by
 rcases step_sound o sm hT (fun f args h k hk=>(hcf f args h k hk).1) hs with ⟨nx,V,w',ρ',v,h',h1,h2,h3,h4,h5,h6⟩ | ⟨f,args,VS,h1,h2,h3⟩
 ·unfold Oper.wp
  rw [h1]
  rcases h2 with rfl | ⟨rfl,rfl⟩
  ·exact H V v ρ' h' w' h3 h4 h5 h6
  ·exact H undef v ρ' h' w' h3 h4 h5 h6
 ·unfold Oper.wp
  rw [h1]
  refine Calls.mono ((hcf _ _ _ _ h3).2 ρ w VS sm h2) fun e w' he=>?_
  obtain ⟨V,v,h',ρ',rfl,r1,r2,r3,r4⟩:=he
  exact H V (some v) ρ' h' w' (fun x hx=>by cases hx;exact r1) r2 r3 r4
structure Fits (P:Program) (G:List Nat) (nt:Nat) (ρ₀:Rho) (h₀:AHeap) (w₀:World) (ρ:Rho) (T:PT AVal) (h:AHeap) (a:Act) (w:World):Prop where
 sim:Sim P G ρ h w
 ext:Ext ρ₀ h₀ w₀ ρ h w
 tmps:TRel ρ T a.tmps
 size:nt<=a.tmps.size
 defers:a.defers=[]
variable {ρ₀:Rho} {h₀:AHeap} {w₀:World}
theorem put_tmps (a:Act) (d:Option Tmp) (V:Value):(a.put d V).defers=a.defers:=by cases d<;>rfl
theorem Fits.put {ρ':Rho} {h':AHeap} {w':World} (f:Fits P G nt ρ₀ h₀ w₀ ρ T h a w) (s:Sim P G ρ' h' w') (x:Ext ρ h w ρ' h' w') {d:Nat} (hd:d < nt) {v:Option AVal} {V:Value} (hv:∀ y,v=some y->VRel ρ' y V) :
  Fits P G nt ρ₀ h₀ w₀ ρ' (T.put v (path d)) h' (a.put (some d) V) w' :=
 ⟨s,f.ext.trans x,path_ne_put (nt:=nt) (f.tmps.mono (x.le f.sim)) hd f.size hv,by rw [put_size];exact f.size,by rw [put_tmps];exact f.defers⟩
theorem Fits.run {ρ':Rho} {h':AHeap} {w':World} (f:Fits P G nt ρ₀ h₀ w₀ ρ T h a w) (s:Sim P G ρ' h' w') (x:Ext ρ h w ρ' h' w') (V:Value):Fits P G nt ρ₀ h₀ w₀ ρ' T h' (a.put none V) w' :=
 ⟨s,f.ext.trans x,f.tmps.mono (x.le f.sim),f.size,f.defers⟩
theorem cDst_none {d:Option Tmp} (h:cDst nt d=some none):d=none:=by
 cases d with
 | none=>rfl
 | some d=>simp only [cDst] at h;cases hb:Nat.blt d nt<;>rw [hb] at h<;>simp at h
theorem cDst_some {d:Option Tmp} {p:List Bool} (h:cDst nt d=some (some p)):∃ t,d=some t/\t < nt/\p=path t:=by
 cases d with
 | none=>simp [cDst] at h
 | some d =>
  simp only [cDst] at h
  cases hb:Nat.blt d nt with
  | false=>rw [hb] at h;simp at h
  | true =>
   rw [hb] at h
   simp only [cond_true,Option.some.injEq] at h
   exact ⟨d,rfl,by simpa [Nat.blt_eq] using hb,h.symm⟩
theorem runPut_wp (o:Oper) (f:Fits P G nt ρ₀ h₀ w₀ ρ T h a w) (hcf:∀ f args h k,cf f args h k->cfP P G f args h k) {d:Nat} (ho:o.dst=some d) (hd:d < nt) {next:Kn} {N:Act->World->Prop} {Q:Exit->Act->World->Prop}
  (hs:runPut (cOp P G nt o.op) (path d) cf next T h) (H:∀ ρ' T' h' a' w',Fits P G nt ρ₀ h₀ w₀ ρ' T' h' a' w'->next T' h'->N a' w'):o.wp P a w N Q :=
 oper_wp o f.sim f.tmps hcf hs fun V v ρ' h' w' hv s x hq=>by rw [ho];exact H _ _ _ _ _ (f.put s x hd hv) hq
theorem runRun_wp (o:Oper) (f:Fits P G nt ρ₀ h₀ w₀ ρ T h a w) (hcf:∀ f args h k,cf f args h k->cfP P G f args h k) (ho:o.dst=none) {next:Kn} {N:Act->World->Prop} {Q:Exit->Act->World->Prop}
  (hs:runRun (cOp P G nt o.op) cf next T h) (H:∀ ρ' T' h' a' w',Fits P G nt ρ₀ h₀ w₀ ρ' T' h' a' w'->next T' h'->N a' w'):o.wp P a w N Q :=
 oper_wp o f.sim f.tmps hcf hs fun V v ρ' h' w' _ s x hq=>by rw [ho];exact H _ _ _ _ _ (f.run s x V) hq
theorem gB_eq {want:Bool} {v:AVal} {r:Bool}:gB want v=some r↔(∃ b,v=.bool b/\r=(b == want))\/(v=skipV/\r=false):=by
 cases v<;>simp [gB,onBool,onTup,skipV,eq_comm]
 rename_i vs
 cases vs<;>simp
theorem skip_rel (ρ:Rho):VRel ρ skipV undef:=⟨[],rfl,by simp [VRels]⟩
theorem runOn_yields {ops:Array Oper} {j:Nat} {g:Oper} {e:Nat} (hj:ops[j]?=some g) (he:g.dst=some e) {want:Bool} (hT:TRel ρ T a.tmps) {yes no:Prop} (hr:runOn (path e) want T yes no) :
  ∃ b,(∀ o:Oper,o.guard=some (j,want)->Region.wanted o (yielded ops a.tmps)=b)/\if b then yes else no:=by
 obtain ⟨b,hb,hr⟩:=obP_iff.1 hr
 obtain ⟨v,hv,hb⟩:=ob_eq.1 hb
 obtain ⟨V,h1,h2⟩:=hT e _ hv
 rw [bi_eq] at hr
 refine ⟨b,fun o hg=>?_,hr⟩
 rcases gB_eq.1 hb with ⟨c,rfl,rfl⟩ | ⟨rfl,rfl⟩
 ·simp only [VRel] at h2
  subst h2
  simp [Region.wanted,hg,yielded,hj,he,h1]
 ·obtain ⟨VS,rfl,h3⟩:=h2
  simp [Region.wanted,hg,yielded,hj,he,h1]
theorem opers_wp {ops:Array Oper} (hcf:∀ f args h k,cf f args h k->cfP P G f args h k) {kn:Kn} {Q:Exit->Act->World->Prop} (hk:∀ ρ T h a w,Fits P G nt ρ₀ h₀ w₀ ρ T h a w->kn T h->Q .normal a w) :
  ∀ (os:List Oper) (k:Nat),ops.toList.drop k=os->∀ {ps:List POper},cOpers P G nt ops os=some ps->∀ {ρ:Rho} {T:PT AVal} {h:AHeap} {a:Act} {w:World},Fits P G nt ρ₀ h₀ w₀ ρ T h a w ->
   runOps ps cf kn T h->wpOps P ops Q (List.range' k os.length) a w
 | [],k,_,ps,hc,ρ,T,h,a,w,f,hr=>by
  simp only [cOpers,Option.some.injEq] at hc
  subst hc
  exact hk _ _ _ _ _ f hr
 | o :: os,k,hd,ps,hc,ρ,T,h,a,w,f,hr=>by
  simp only [cOpers] at hc
  split at hc
  ·rename_i p hp
   split at hc
   ·rename_i ps' hps
    cases hc
    have ho:ops[k]?=some o:=by
     rw [<-Array.getElem?_toList,<-List.head?_drop,hd];rfl
    have hd':ops.toList.drop (k+1)=os:=by rw [<-List.drop_drop,hd];rfl
    have hr':runOper p cf (runOps ps' cf kn) T h:=hr
    have IH:=fun ρ' T' h' a' w' (f':Fits P G nt ρ₀ h₀ w₀ ρ' T' h' a' w') (hr:runOps ps' cf kn T' h')=>opers_wp (ops:=ops) hcf hk os (k+1) hd' hps f' hr
    simp only [List.length_cons,List.range'_succ,wpOps,ho]
    simp only [cOper] at hp
    split at hp
    ·rename_i d hdst
     split at hp
     ·rename_i hg
      have hwt:Region.wanted o (yielded ops a.tmps)=true:=by simp [Region.wanted,hg]
      rw [if_pos hwt]
      left
      split at hp
      ·cases hp
       exact runRun_wp o f hcf (cDst_none hdst) hr' IH
      ·cases hp
       obtain ⟨t,h1,h2,rfl⟩:=cDst_some hdst
       exact runPut_wp o f hcf h1 h2 hr' IH
     ·rename_i j want hg
      split at hp
      ·rename_i g hj
       split at hp
       ·rename_i e he
        cases hb:Nat.blt e nt with
        | false=>rw [hb] at hp;simp at hp
        | true =>
         rw [hb] at hp
         simp only [cond_true,Option.some.injEq] at hp
         subst hp
         have hr':runOn (path e) want T (oe d (runRun (cOp P G nt o.op) cf (runOps ps' cf kn) T h) fun d=>runPut (cOp P G nt o.op) d cf (runOps ps' cf kn) T h) (oe d (runOps ps' cf kn T h) fun d=>runOps ps' cf kn (T.put (some skipV) d) h):=hr'
         obtain ⟨b,hy,hr'⟩:=runOn_yields hj he f.tmps hr'
         have hwt:Region.wanted o (yielded ops a.tmps)=b:=hy o hg
         rw [hwt]
         split at hr'
         ·rename_i hb'
          rw [if_pos hb']
          left
          cases d with
          | none=>exact runRun_wp o f hcf (cDst_none hdst) hr' IH
          | some d =>
           obtain ⟨t,h1,h2,rfl⟩:=cDst_some hdst
           exact runPut_wp o f hcf h1 h2 hr' IH
         ·rename_i hb'
          rw [if_neg hb']
          cases d with
          | none =>
           rw [cDst_none hdst]
           exact IH _ _ _ _ _ (f.run f.sim (Ext.refl _ _ _) _) hr'
          | some d =>
           obtain ⟨t,h1,h2,rfl⟩:=cDst_some hdst
           rw [h1]
           exact IH _ _ _ _ _ (f.put f.sim (Ext.refl _ _ _) h2 (fun y hy=>by cases hy;exact skip_rel _)) hr'
       ·cases hp
      ·cases hp
    ·cases hp
   ·cases hc
  ·cases hc
def RegionOk (P:Program) (G:List Nat) (nt:Nat):Prop:=∀ (id:Nat) (ops:Array Oper) (d:Bool) (ps:List POper),comp P G nt (.region id ops d)=.region ps ->
 ∀ {cf:CallF},(∀ f args h k,cf f args h k->cfP P G f args h k)->∀ {kn:Kn} {Q:Exit->Act->World->Prop} {ρ₀:Rho} {h₀:AHeap} {w₀:World},
 (∀ ρ T h a w,Fits P G nt ρ₀ h₀ w₀ ρ T h a w->kn T h->Q .normal a w)->∀ {ρ:Rho} {T:PT AVal} {h:AHeap} {a:Act} {w:World},Fits P G nt ρ₀ h₀ w₀ ρ T h a w->runOps ps cf kn T h->(Code.region id ops d).wp P Q a w
end
end Go.Ab
namespace Go.Ab
variable {P:Program} {G:List Nat}
section
variable {nt:Nat} {cf:CallF} {ρ₀:Rho} {h₀:AHeap} {w₀:World}
theorem least_nat {p:Nat->Prop} (h:∃ n,p n):∃ n,p n/\∀ m,p m->n<=m:=by
 obtain ⟨n,hn⟩:=h
 induction n using Nat.strongRecOn with
 | _ n ih =>
  by_cases hm:∃ m,m < n/\p m
  ·obtain ⟨m,h1,h2⟩:=hm;exact ih m h1 h2
  ·exact ⟨n,hn,fun m hpm=>Nat.le_of_not_lt fun hlt=>hm ⟨m,hlt,hpm⟩⟩
def LoopOk (lp:(Kn->Kn)->Kn):Prop:=∀ body T h,lp body T h->∃ n,loopN body n T h
theorem comp_region (id:Nat) (ops:Array Oper) (d:Bool):comp P G nt (.region id ops d)=.bad\/∃ ps,comp P G nt (.region id ops d)=.region ps:=by
 cases d with
 | false =>
  simp only [comp]
  split
  ·exact .inr ⟨_,rfl⟩
  ·exact .inl rfl
 | true =>
  simp only [comp]
  cases P.follows .mixedOrders with
  | false=>exact .inl rfl
  | true =>
   simp only [cond_true]
   split
   ·split
    ·exact .inr ⟨_,rfl⟩
    ·exact .inl rfl
   ·exact .inl rfl
theorem run_sound {lp:(Kn->Kn)->Kn} (hlp:LoopOk lp) (hreg:RegionOk P G nt) (hcf:∀ f args h k,cf f args h k->cfP P G f args h k) :
  ∀ (c:Code) {kn:Kn} {kx:Kx} {kr:Kn} {Q:Exit->Act->World->Prop},(∀ ρ T h a w,Fits P G nt ρ₀ h₀ w₀ ρ T h a w->kn T h->Q .normal a w) ->
   (∀ id ρ T h a w,Fits P G nt ρ₀ h₀ w₀ ρ T h a w->kx id T h->Q (.exit id) a w)->(∀ ρ T h a w,Fits P G nt ρ₀ h₀ w₀ ρ T h a w->kr T h->Q .ret a w) ->
   ∀ {ρ:Rho} {T:PT AVal} {h:AHeap} {a:Act} {w:World},Fits P G nt ρ₀ h₀ w₀ ρ T h a w->run lp (comp P G nt c) cf kn kx kr T h->c.wp P Q a w:=by
 intro c
 induction c with
 | skip=>intro kn kx kr Q hn hx hr ρ T h a w f hs;exact wp_skip (hn _ _ _ _ _ f hs)
 | label l=>intro kn kx kr Q hn hx hr ρ T h a w f hs;exact wp_label (hn _ _ _ _ _ f hs)
 | region id ops d =>
  intro kn kx kr Q hn hx hr ρ T h a w f hs
  rcases comp_region id ops d with hc | ⟨ps,hc⟩
  ·rw [hc] at hs;exact hs.elim
  ·rw [hc] at hs;exact hreg id ops d ps hc hcf hn f hs
 | seq x y ihx ihy =>
  intro kn kx kr Q hn hx hr ρ T h a w f hs
  have hs:run lp (comp P G nt x) cf (run lp (comp P G nt y) cf kn kx kr) kx kr T h:=hs
  refine wp_seq (ihx (Q:=Exit.then (y.wp P Q) Q) (fun ρ T h a w f hk=>?_) (fun id ρ T h a w f hk=>hx id _ _ _ _ _ f hk) (fun ρ T h a w f hk=>hr _ _ _ _ _ f hk) f hs)
  exact ihy hn hx hr f hk
 | cond c x y ihx ihy =>
  intro kn kx kr Q hn hx hr ρ T h a w f hs
  have hs:obP (ob ((cOpd G nt c).get T) fun v=>onBool v some) (fun t=>bi t (run lp (comp P G nt x) cf kn kx kr T h) (run lp (comp P G nt y) cf kn kx kr T h)):=hs
  obtain ⟨t,ht,hs⟩:=obP_iff.1 hs
  obtain ⟨v,hv,ht⟩:=ob_eq.1 ht
  obtain ⟨b,rfl,ht⟩:=onBool_eq.1 ht
  cases ht
  have r:=opd_rel f.sim f.tmps hv
  simp only [VRel] at r
  refine wp_cond r ?_
  cases t with
  | true=>exact ihx hn hx hr f hs
  | false=>exact ihy hn hx hr f hs
 | block id c ih =>
  intro kn kx kr Q hn hx hr ρ T h a w f hs
  have hs:run lp (comp P G nt c) cf kn (fun i T h=>bi (Nat.beq i id) (kn T h) (kx i T h)) kr T h:=hs
  refine wp_block (ih (Q:=Exit.inBlock id Q) (fun ρ T h a w f hk=>hn _ _ _ _ _ f hk) (fun i ρ T h a w f hk=>?_) (fun ρ T h a w f hk=>hr _ _ _ _ _ f hk) f hs)
  simp only [Exit.inBlock]
  rw [bi_eq,nbeq] at hk
  by_cases hi:i=id
  ·rw [if_pos hi];rw [if_pos (by simpa using hi)] at hk;exact hn _ _ _ _ _ f hk
  ·rw [if_neg hi];rw [if_neg (by simpa using hi)] at hk;exact hx _ _ _ _ _ _ f hk
 | loop c ih =>
  intro kn kx kr Q hn hx hr ρ T h a w f hs
  have hs:lp (fun kn=>run lp (comp P G nt c) cf kn kx kr) T h:=hs
  obtain ⟨n,hs⟩:=hlp _ _ _ hs
  generalize hB:(fun kn=>run lp (comp P G nt c) cf kn kx kr)=B at hs
  let J:Nat->Act->World->Prop:=fun n a w=>∃ ρ T h,Fits P G nt ρ₀ h₀ w₀ ρ T h a w/\loopN B n T h
  let I:Act->World->Prop:=fun a w=>∃ n,J n a w
  have hI:I a w:=⟨n,ρ,T,h,f,hs⟩
  haveI:∀ a w,Decidable (I a w):=fun a w=>Classical.propDecidable _
  let μ:Act->World->Nat:=fun a w=>if hh:I a w then Classical.choose (least_nat hh) else 0
  refine wp_loop I μ hI fun a w hi=>?_
  have hμ:μ a w=Classical.choose (least_nat hi):=dif_pos hi
  have hspec:=(Classical.choose_spec (least_nat hi)).1
  rw [<-hμ] at hspec
  cases hm:μ a w with
  | zero =>
   rw [hm] at hspec
   obtain ⟨ρ,T,h,f,hs⟩:=hspec
   exact hs.elim
  | succ m =>
   rw [hm] at hspec
   obtain ⟨ρ,T,h,f,hs⟩:=hspec
   have hs:B (loopN B m) T h:=hs
   rw [<-hB] at hs
   refine ih (kn:=loopN B m) (Q:=Exit.then (fun a' w'=>I a' w'/\μ a' w' < m+1) Q) (fun ρ T h a w f hk=>?_) (fun id ρ T h a w f hk=>hx id _ _ _ _ _ f hk) (fun ρ T h a w f hk=>hr _ _ _ _ _ f hk) f (by rw [<-hB];exact hs)
   have hj:J m a w:=⟨ρ,T,h,f,hk⟩
   refine ⟨⟨m,hj⟩,?_⟩
   have hi':I a w:=⟨m,hj⟩
   have:μ a w=Classical.choose (least_nat hi'):=dif_pos hi'
   rw [this]
   exact Nat.lt_succ_of_le ((Classical.choose_spec (least_nat hi')).2 m hj)
 | exit id=>intro kn kx kr Q hn hx hr ρ T h a w f hs;exact wp_exit (hx _ _ _ _ _ _ f hs)
 | ret=>intro kn kx kr Q hn hx hr ρ T h a w f hs;exact wp_ret (hr _ _ _ _ _ f hs)
 | _=>intro kn kx kr Q hn hx hr ρ T h a w f hs;exact hs.elim
end
def resOne (tmps:Array Value):ResultVar->Sem Value
 | .tmp t=>pure (tmps.getD t undef)
 | .cell a t=>do loadVar t (<-asAddr (tmps.getD a undef))
theorem results_eq (fn:Func) (tmps:Array Value):results fn tmps=(do
  let vs <-fn.results.mapM (resOne tmps)
  pure (if h:vs.size=1 then vs[0] else .tuple vs)):=rfl
theorem results_run {nt:Nat} {ρ:Rho} {T:PT AVal} {h:AHeap} {w:World} (sm:Sim P G ρ h w) {tmps:Array Value} (hT:TRel ρ T tmps):∀ {rs:List ResultVar} {ps:List PResult} {vs:List AVal},
  cResults P nt rs=some ps->resultsA T h ps=some vs->∃ VS,VRels ρ vs VS/\(rs.mapM (resOne tmps):Sem (List Value)).run P w=.ok VS w
 | [],ps,vs,hc,hv=>by
  simp only [cResults,Option.some.injEq] at hc
  subst hc
  have hv:some []=some vs:=hv
  cases hv
  exact ⟨[],by simp [VRels],by simp⟩
 | .tmp t :: rs,ps,vs,hc,hv=>by
  simp only [cResults] at hc
  split at hc
  ·rename_i r hb hrs
   cases hc
   have hv:ob (T.get (path t)) (fun v=>ob (resultsA T h r) fun vs=>some (v :: vs))=some vs:=hv
   simp only [ob_eq,Option.some.injEq] at hv
   obtain ⟨v,hv1,vs',hvs,rfl⟩:=hv
   obtain ⟨VS,q1,q2⟩:=results_run sm hT hrs hvs
   obtain ⟨V,e1,e2⟩:=hT t v hv1
   refine ⟨V :: VS,.cons e2 q1,?_⟩
   have e3:tmps.getD t undef=V:=by rw [Array.getD_eq_getD_getElem?,e1];rfl
   simp only [List.mapM_cons,Sem.run_bind,resOne,Sem.run_pure,Result.andThen_ok,e3,q2]
  ·cases hc
 | .cell b t :: rs,ps,vs,hc,hv=>by
  simp only [cResults] at hc
  split at hc
  ·rename_i s r hb hsh hrs
   cases hc
   have hv:ob (ob (T.get (path b)) fun a=>onPtr a fun b off=>readVar h s b off) (fun v=>ob (resultsA T h r) fun vs=>some (v :: vs))=some vs:=hv
   simp only [ob_eq,onPtr_eq,Option.some.injEq] at hv
   obtain ⟨v,⟨p,hp,bb,off,rfl,hv1⟩,vs',hvs,rfl⟩:=hv
   obtain ⟨VS,q1,q2⟩:=results_run sm hT hrs hvs
   obtain ⟨V,e1,L,hL,rfl⟩:=hT b _ hp
   obtain ⟨L',X,hL',hx,rX⟩:=readVar_run sm hsh hv1
   rw [hL] at hL';cases hL'
   refine ⟨X :: VS,.cons rX q1,?_⟩
   have e3:tmps.getD b undef=.pointer (some ⟨L.blk,L.base+off,none⟩):=by rw [Array.getD_eq_getD_getElem?,e1];rfl
   simp only [List.mapM_cons,Sem.run_bind,resOne,e3,asAddr,Sem.run_pure,Result.andThen_ok,hx,q2]
  ·cases hc
theorem oneOr_rel {ρ:Rho} {vs:List AVal} {VS:List Value} (r:VRels ρ vs VS):VRel ρ (oneOr vs) (if h:(⟨VS⟩:Array Value).size=1 then (⟨VS⟩:Array Value)[0] else .tuple ⟨VS⟩):=by
 match vs,VS,r with
 | [],_,r=>simp only [VRels] at r;subst r;exact ⟨[],rfl,by simp [VRels]⟩
 | [v],_,r =>
  obtain ⟨X,XS,rfl,r1,r2⟩:=r
  simp only [VRels] at r2;subst r2
  simpa [oneOr] using r1
 | v :: v' :: vs,_,r =>
  obtain ⟨X,XS,rfl,r1,X',XS',rfl,r2,r3⟩:=r
  have:¬ (⟨X :: X' :: XS'⟩:Array Value).size=1:=by simp
  rw [dif_neg this]
  exact ⟨_,rfl,.cons r1 (.cons r2 r3)⟩
theorem results_sem {nt:Nat} {fn:Func} {ps:List PResult} (hc:cResults P nt fn.results.toList=some ps) {ρ:Rho} {T:PT AVal} {h:AHeap} {w:World} (sm:Sim P G ρ h w) {tmps:Array Value} (hT:TRel ρ T tmps)
  {vs:List AVal} (hv:resultsA T h ps=some vs):∃ V,(results fn tmps).run P w=.ok V w/\VRel ρ (oneOr vs) V:=by
 obtain ⟨VS,h1,h2⟩:=results_run (P:=P) sm hT hc hv
 refine ⟨_,?_,oneOr_rel h1⟩
 rw [results_eq,Array.mapM_eq_mapM_toList]
 simp only [Sem.run_bind,Sem.run_map,h2]
 rfl
theorem callBody_sound {lp:(Kn->Kn)->Kn} (hlp:LoopOk lp) (hreg:∀ nt,RegionOk P G nt) {cf:CallF} (hcf:∀ f args h k,cf f args h k->cfP P G f args h k) {f:FuncId} {args:List AVal} {h:AHeap} {k:Post}
  (hs:callBody (compF P G) lp cf f args h k):cfP P G f args h k:=by
 obtain ⟨pf,hpf,hs⟩:=obP_iff.1 hs
 unfold compF at hpf
 split at hpf
 ·rename_i fn hfn
  split at hpf
  ·rename_i c rs hb hrs
   cases hname:fn.name == "runtime.NumGoroutine" with
   | true=>rw [hname] at hpf;simp at hpf
   | false =>
    rw [hname] at hpf
    simp only [cond_false,Option.some.injEq] at hpf
    subst hpf
    refine ⟨⟨fn,hfn,by rw [hb];rfl,hname⟩,fun ρ w VS sm hV=>calls_of_wp hfn hb ?_⟩
    have hlen:=hV.length
    refine run_sound (ρ₀:=ρ) (h₀:=h) (w₀:=w) hlp (hreg fn.ntmps) hcf c (kn:=finish rs k) (kx:=fun _ _ _=>False) (kr:=finish rs k) ?_ (fun _ _ _ _ _ _ _ hk=>hk.elim) ?_ (ρ:=ρ) (T:=ofList args) (h:=h) ⟨sm,Ext.refl _ _ _,?_,?_,rfl⟩ hs
    ·intro ρ' T h' a w' ft hk
     obtain ⟨vs,hvs,hk⟩:=obP_iff.1 hk
     obtain ⟨V,h1,h2⟩:=results_sem hrs ft.sim ft.tmps hvs
     exact ⟨ft.defers,V,h1,V,oneOr vs,h',ρ',rfl,h2,ft.sim,ft.ext,hk⟩
    ·intro ρ' T h' a w' ft hk
     obtain ⟨vs,hvs,hk⟩:=obP_iff.1 hk
     obtain ⟨V,h1,h2⟩:=results_sem hrs ft.sim ft.tmps hvs
     exact ⟨ft.defers,V,h1,V,oneOr vs,h',ρ',rfl,h2,ft.sim,ft.ext,hk⟩
    ·intro t v hv
     rw [get_ofList] at hv
     obtain ⟨V,e1,e2⟩:=hV.get hv
     refine ⟨V,?_,e2⟩
     have:t < VS.length:=(List.getElem?_eq_some_iff.1 e1).1
     rw [Array.getElem?_append_left (by simpa using this)]
     simpa using e1
    ·simp;omega
  ·cases hpf
 ·cases hpf
theorem loopN_ok (L:Nat):LoopOk fun body=>loopN body L:=fun _ _ _ h=>⟨L,h⟩
theorem call_sound (hreg:∀ nt,RegionOk P G nt) (L:Nat):∀ (d:Nat) (f:FuncId) (args:List AVal) (h:AHeap) (k:Post),call (compF P G) L d f args h k->cfP P G f args h k
 | 0,_,_,_,_,hs=>hs.elim
 | d+1,_,_,_,_,hs=>callBody_sound (loopN_ok L) hreg (call_sound hreg L d) hs
end Go.Ab
namespace Go.Ab
theorem getAll_congr {T T':PT AVal}:∀ {xs:List Opd},(∀ x∈xs,x.get T=x.get T')->getAll T xs=getAll T' xs
 | [],_=>rfl
 | x :: xs,h=>by
  show ob (x.get T) (fun a=>ob (getAll T xs) fun as=>some (a :: as))=ob (x.get T') (fun a=>ob (getAll T' xs) fun as=>some (a :: as))
  rw [h x (by simp),getAll_congr fun y hy=>h y (by simp [hy])]
theorem fillA_congr {T T':PT AVal}:∀ {ps:List ((Nat×Nat)×Opd)},(∀ x∈ps.map (·.2),x.get T=x.get T')->∀ c,fillA T ps c=fillA T' ps c
 | [],_,_=>rfl
 | p :: ps,h,c=>by
  show ob (p.2.get T) (fun v=>bi (Nat.beq v.cells.length p.1.2) (bi (Nat.ble (p.1.1+p.1.2) c.length) (fillA T ps (listPut c p.1.1 v.cells)) none) none)=ob (p.2.get T') (fun v=>bi (Nat.beq v.cells.length p.1.2) (bi (Nat.ble (p.1.1+p.1.2) c.length) (fillA T' ps (listPut c p.1.1 v.cells)) none) none)
  rw [h p.2 (by simp)]
  congr 1
  funext v
  rw [fillA_congr fun y hy=>h y (by simp at hy ⊢;exact .inr hy)]
theorem getOpt_congr {T T':PT AVal} {x:Option Opd} (h:∀ y∈optL x,y.get T=y.get T'):getOpt T x=getOpt T' x:=by
 cases x with
 | none=>rfl
 | some x =>
  show ob (x.get T) (fun a=>some (some a))=ob (x.get T') (fun a=>some (some a))
  rw [h x (by simp [optL])]
theorem step_congr {op:POp} {T T':PT AVal} (h:∀ x∈op.opds,x.get T=x.get T') (cf:CallF) (hp:AHeap) (q:Ko):step op cf T hp q=step op cf T' hp q:=by
 cases op with
 | bad=>rfl
 | new cs=>rfl
 | build z ps =>
  show opk (ob (fillA T ps z) _) q=opk (ob (fillA T' ps z) _) q
  rw [fillA_congr h]
 | buildSlice len sz z ps =>
  show opk (ob (fillA T ps z) _) q=opk (ob (fillA T' ps z) _) q
  rw [fillA_congr h]
 | makeFunc f a b =>
  show opk (ob (getAll T a) fun x=>ob (getAll T b) fun y=>_) q=opk (ob (getAll T' a) fun x=>ob (getAll T' b) fun y=>_) q
  rw [getAll_congr fun x hx=>h x (by simp [POp.opds,hx]),getAll_congr fun x hx=>h x (by simp [POp.opds,hx])]
 | makeMap kt r =>
  cases r with
  | none=>rfl
  | some x =>
   show opk (ob (x.get T) _) q=opk (ob (x.get T') _) q
   rw [h x (by simp [POp.opds,optL])]
 | slice k x lo hi mx =>
  show opk (retO hp (ob (x.get T) fun v=>ob (getOpt T lo) fun l=>ob (getOpt T hi) fun u=>ob (getOpt T mx) fun m=>sliceA k v l u m hp)) q=opk (retO hp (ob (x.get T') fun v=>ob (getOpt T' lo) fun l=>ob (getOpt T' hi) fun u=>ob (getOpt T' mx) fun m=>sliceA k v l u m hp)) q
  rw [h x (by simp [POp.opds]),getOpt_congr fun y hy=>h y (by simp [POp.opds,hy]),getOpt_congr fun y hy=>h y (by simp [POp.opds,hy]),getOpt_congr fun y hy=>h y (by simp [POp.opds,hy])]
 | call f as =>
  show obP (f.get T) (fun g=>obP (getAll T as) fun as=>callV cf g as hp q)=obP (f.get T') (fun g=>obP (getAll T' as) fun as=>callV cf g as hp q)
  rw [h f (by simp [POp.opds]),getAll_congr fun x hx=>h x (by simp [POp.opds,hx])]
 | callF f as =>
  show obP (getAll T as) (fun as=>callA cf f as hp q)=obP (getAll T' as) (fun as=>callA cf f as hp q)
  have h':∀ x∈as,x.get T=x.get T':=h
  rw [getAll_congr h']
 | nextM x =>
  show obP (x.get T) (fun a=>nextMA a hp q)=obP (x.get T') (fun a=>nextMA a hp q)
  rw [h x (by simp [POp.opds])]
 | pick c a b =>
  show opk (retO hp (ob (c.get T) fun t=>onBool t fun t=>bi t (a.get T) (b.get T))) q=opk (retO hp (ob (c.get T') fun t=>onBool t fun t=>bi t (a.get T') (b.get T'))) q
  rw [h c (by simp [POp.opds]),h a (by simp [POp.opds]),h b (by simp [POp.opds])]
 | update K m k x =>
  show opk (ob (m.get T) fun a=>ob (k.get T) fun b=>ob (x.get T) fun v=>updateA K a b v hp) q=opk (ob (m.get T') fun a=>ob (k.get T') fun b=>ob (x.get T') fun v=>updateA K a b v hp) q
  rw [h m (by simp [POp.opds]),h k (by simp [POp.opds]),h x (by simp [POp.opds])]
 | entryStore m k x =>
  show opk (ob (m.get T) fun a=>ob (k.get T) fun b=>ob (x.get T) fun v=>entryStoreA a b v hp) q=opk (ob (m.get T') fun a=>ob (k.get T') fun b=>ob (x.get T') fun v=>entryStoreA a b v hp) q
  rw [h m (by simp [POp.opds]),h k (by simp [POp.opds]),h x (by simp [POp.opds])]
 | move x | load1 x | load n x | box x | nilCheck x | un o x | conv c x | fieldAddr n x | part s o x | range x | next x | extract x i | len k x | clear sz z x | rangeM x | entry x =>
  have e:=h x (by simp [POp.opds])
  simp only [step]
  rw [e]
 | store n x y | bin o t x y | makeSlice sz z x y | indexAddrS sz x y | indexAddrA l s x y | indexA s l n x y | indexS x y | lookup K z ok x y | append sz x y | minmax l x y | copy sz x y | delete K x y | mapEntry K z x y =>
  have e:=h x (by simp [POp.opds])
  have e2:=h y (by simp [POp.opds])
  simp only [step]
  rw [e,e2]
theorem opk_retO {h:AHeap} {o:Option AVal} {q:Ko}:opk (retO h o) q↔∃ v,o=some v/\q (some v) h:=by
 cases o with
 | none=>simp [opk,retO,ob]
 | some v=>simp [opk,retO,ob]
def Holds (op:POp) (T:PT AVal) (h:AHeap) (v:AVal):Prop:=∀ cf q,q (some v) h->step op cf T h q
theorem holds_of {op:POp} {T:PT AVal} {f:AHeap->Option AVal} (hf:∀ cf h q,step op cf T h q=opk (retO h (f h)) q) {cf:CallF} {h:AHeap} {q:Ko} (hs:step op cf T h q) :
  ∃ v,q (some v) h/\f h=some v/\Holds op T h v:=by
 rw [hf,opk_retO] at hs
 obtain ⟨v,e,hq⟩:=hs
 exact ⟨v,hq,e,fun cf' q' hq'=>by rw [hf,opk_retO];exact ⟨v,e,hq'⟩⟩
theorem binA_indep {op:BinOp} {t:EqT} (ht:∀ n,t≠.ptr n) (h h':AHeap) (a b:AVal):binA h op t a b=binA h' op t a b:=by
 cases t with
 | ptr n=>exact absurd rfl (ht n)
 | _=>rfl
theorem step_read {op:POp} (hk:op.kind<=1) (T:PT AVal):∃ f:AHeap->Option AVal,(∀ cf h q,step op cf T h q=opk (retO h (f h)) q)/\(op.kind=0->∀ h h',f h=f h'):=by
 have one:∀ {x:Opd} {g:AHeap->AVal->Option AVal},(∀ cf h q,step op cf T h q=opk (retO h (ob (x.get T) (g h))) q)->(op.kind=0->∀ h h',g h=g h') ->
   ∃ f:AHeap->Option AVal,(∀ cf h q,step op cf T h q=opk (retO h (f h)) q)/\(op.kind=0->∀ h h',f h=f h') :=
  fun {x g} e e2=>⟨fun h=>ob (x.get T) (g h),e,fun k h h'=>by show ob _ (g h)=ob _ (g h');rw [e2 k h h']⟩
 have ret1:∀ {x:Opd} {G:AHeap->AVal->Out} {g:AHeap->AVal->Option AVal},(∀ cf h q,step op cf T h q=opk (ob (x.get T) (G h)) q)->(∀ h a,G h a=retO h (g h a))->∀ cf h q,step op cf T h q=opk (retO h (ob (x.get T) (g h))) q:=by
  intro x G g e e2 cf h q
  rw [e]
  cases x.get T with
  | none=>rfl
  | some a=>show opk (G h a) q=opk (retO h (g h a)) q;rw [e2]
 cases op with
 | move x=>exact ⟨fun _=>x.get T,fun _ _ _=>rfl,fun _ _ _=>rfl⟩
 | pick c a b=>exact ⟨fun _=>ob (c.get T) fun t=>pickA T t a b,fun _ _ _=>rfl,fun _ _ _=>rfl⟩
 | build z ps =>
  refine ⟨fun _=>ob (fillA T ps z) fun cs=>some (.agg cs),fun cf h q=>?_,fun _ _ _=>rfl⟩
  show opk (ob (fillA T ps z) fun cs=>ret h (.agg cs)) q=_
  cases fillA T ps z<;>rfl
 | nilCheck x=>exact one (x:=x) (g:=fun _=>nilCheckA) (fun _ _ _=>rfl) fun _ _ _=>rfl
 | un o x=>exact one (x:=x) (g:=fun _ a=>unA o a) (fun _ _ _=>rfl) fun _ _ _=>rfl
 | makeFunc f a b =>
  refine ⟨fun _=>ob (getAll T a) fun a=>ob (getAll T b) fun c=>some (.func f a c),fun cf h q=>?_,fun _ _ _=>rfl⟩
  show opk (ob (getAll T a) fun a=>ob (getAll T b) fun c=>ret h (.func f a c)) q=_
  cases getAll T a with
  | none=>rfl
  | some a=>cases getAll T b<;>rfl
 | fieldAddr off x =>
  refine one (x:=x) (g:=fun _ a=>onPtr a fun b o=>some (.ptr b (o+off))) (ret1 (G:=fun h a=>onPtr a fun b o=>ret h (.ptr b (o+off))) (fun _ _ _=>rfl) fun h a=>?_) fun _ _ _=>rfl
  cases a<;>rfl
 | part s off x=>exact one (x:=x) (g:=fun _ a=>onAgg a fun cs=>partA s cs off) (fun _ _ _=>rfl) fun _ _ _=>rfl
 | indexAddrS sz x i=>exact one (x:=x) (g:=fun _ a=>ob (i.get T) fun b=>indexAddrS sz a b) (fun _ _ _=>rfl) fun _ _ _=>rfl
 | indexAddrA l sz x i=>exact one (x:=x) (g:=fun _ a=>ob (i.get T) fun b=>indexAddrA l sz a b) (fun _ _ _=>rfl) fun _ _ _=>rfl
 | indexA s l sz x i=>exact one (x:=x) (g:=fun _ a=>ob (i.get T) fun b=>indexA s l sz a b) (fun _ _ _=>rfl) fun _ _ _=>rfl
 | indexS x i=>exact one (x:=x) (g:=fun _ a=>ob (i.get T) fun b=>indexS a b) (fun _ _ _=>rfl) fun _ _ _=>rfl
 | extract x i=>exact one (x:=x) (g:=fun _ a=>onTup a fun vs=>listGet vs i) (fun _ _ _=>rfl) fun _ _ _=>rfl
 | minmax less x y =>
  exact one (x:=x) (g:=fun _ a=>ob (y.get T) fun b=>onInt a fun k m=>onInt b fun k' n=>bi (sameK k k') (some (.int k (bi less (bi (ltI n m) n m) (bi (ltI m n) n m)))) none) (fun _ _ _=>rfl) fun _ _ _=>rfl
 | load1 x =>
  refine one (x:=x) (g:=fun h a=>onPtr a fun b off=>h.read1 b off) (ret1 (G:=fun h a=>onPtr a fun b off=>retO h (h.read1 b off)) (fun _ _ _=>rfl) fun h a=>?_) fun k=>by simp [POp.kind] at k
  cases a<;>rfl
 | load n x =>
  refine one (x:=x) (g:=fun h a=>onPtr a fun b off=>readAgg h n b off) (ret1 (G:=fun h a=>onPtr a fun b off=>retO h (readAgg h n b off)) (fun _ _ _=>rfl) fun h a=>?_) fun k=>by simp [POp.kind] at k
  cases a<;>rfl
 | lookup K z ok m k=>exact one (x:=m) (g:=fun h a=>ob (k.get T) fun b=>lookupA K z ok a b h) (fun _ _ _=>rfl) fun k=>by simp [POp.kind] at k
 | len k x=>exact one (x:=x) (g:=fun h a=>lenA k a h) (fun _ _ _=>rfl) fun hk=>by cases k<;>first | (simp [POp.kind] at hk;done) | (intro _ _;rfl)
 | bin o t x y =>
  refine one (x:=x) (g:=fun h a=>ob (y.get T) fun b=>binA h o t a b) (fun _ _ _=>rfl) fun hk h h'=>?_
  have ht:∀ n,t≠.ptr n:=fun n e=>by subst e;simp [POp.kind] at hk
  funext a
  show ob (y.get T) (fun b=>binA h o t a b)=ob (y.get T) (fun b=>binA h' o t a b)
  congr 1
  funext b
  exact binA_indep ht h h' a b
 | slice k x lo hi mx =>
  refine one (x:=x) (g:=fun h v=>ob (getOpt T lo) fun l=>ob (getOpt T hi) fun u=>ob (getOpt T mx) fun m=>sliceA k v l u m h) (fun _ _ _=>rfl) fun hk=>?_
  cases k<;>first | (simp [POp.kind] at hk;done) | (intro _ _;rfl)
 | conv c x =>
  cases c with
  | toInt k =>
   refine one (x:=x) (g:=fun _ a=>onInt a fun _ n=>some (.int k (wrapF k n))) (ret1 (G:=fun h a=>convA (.toInt k) a h) (fun _ _ _=>rfl) fun h a=>?_) fun _ _ _=>rfl
   cases a<;>rfl
  | intToStr =>
   refine one (x:=x) (g:=fun _ a=>onInt a fun _ n=>some (.str (Utf8.encode n).data.toList)) (ret1 (G:=fun h a=>convA .intToStr a h) (fun _ _ _=>rfl) fun h a=>?_) fun _ _ _=>rfl
   cases a<;>rfl
  | strToStr =>
   refine one (x:=x) (g:=fun _ a=>onStr a fun s=>some (.str s)) (ret1 (G:=fun h a=>convA .strToStr a h) (fun _ _ _=>rfl) fun h a=>?_) fun _ _ _=>rfl
   cases a<;>rfl
  | bytesToStr =>
   refine one (x:=x) (g:=fun h a=>onRow a (some (.str [])) fun b off len _ _=>ob (h.read b off len) fun vs=>ob (bytesOf vs) fun s=>some (.str s)) (ret1 (G:=fun h a=>convA .bytesToStr a h) (fun _ _ _=>rfl) fun h a=>?_) fun k=>by simp [POp.kind] at k
   cases a<;>try rfl
   rename_i b off len cap sz
   show ob (h.read b off len) (fun vs=>ob (bytesOf vs) fun s=>ret h (.str s))=retO h (ob (h.read b off len) fun vs=>ob (bytesOf vs) fun s=>some (.str s))
   cases h.read b off len with
   | none=>rfl
   | some vs=>show ob (bytesOf vs) _=retO h (ob (bytesOf vs) _);cases bytesOf vs<;>rfl
  | runesToStr =>
   refine one (x:=x) (g:=fun h a=>onRow a (some (.str [])) fun b off len _ _=>ob (h.read b off len) fun vs=>ob (runesOf vs) fun s=>some (.str s)) (ret1 (G:=fun h a=>convA .runesToStr a h) (fun _ _ _=>rfl) fun h a=>?_) fun k=>by simp [POp.kind] at k
   cases a<;>try rfl
   rename_i b off len cap sz
   show ob (h.read b off len) (fun vs=>ob (runesOf vs) fun s=>ret h (.str s))=retO h (ob (h.read b off len) fun vs=>ob (runesOf vs) fun s=>some (.str s))
   cases h.read b off len with
   | none=>rfl
   | some vs=>show ob (runesOf vs) _=retO h (ob (runesOf vs) _);cases runesOf vs<;>rfl
  | _=>exact absurd hk (by simp [POp.kind])
 | _=>exact absurd hk (by simp [POp.kind])
theorem same1_eq {a b:AVal} (h:same1 a b=true):a=b:=by
 unfold same1 at h
 split at h
 ·simp at h;rw [h]
 ·rw [bi_eq] at h
  split at h
  ·rename_i k x k' y hk
   have e1:k=k':=by
    have:=Nat.eq_of_beq_eq_true hk
    cases k<;>cases k'<;>first | rfl | (exact absurd this (by decide))
   have e2:x=y:=by
    cases x<;>cases y<;>first | (cases h;done) | (have:=Nat.eq_of_beq_eq_true h;subst this;rfl)
   rw [e1,e2]
  ·cases h
 ·rename_i x y
  have:x=y:=by
   induction x generalizing y with
   | nil=>cases y with
    | nil=>rfl
    | cons _ _=>cases h
   | cons c x ih=>cases y with
    | nil=>cases h
    | cons d y =>
     have h':bi (Nat.beq c.toNat d.toNat) (eqS x y) false=true:=h
     rw [bi_eq] at h'
     split at h'
     ·rename_i hc
      rw [UInt8.toNat_inj.1 (Nat.eq_of_beq_eq_true hc),ih _ h']
     ·cases h'
  rw [this]
 ·rfl
 ·rfl
 ·rfl
 ·rfl
 ·rfl
 ·rw [bi_eq] at h
  split at h
  ·rename_i hb;rw [Nat.eq_of_beq_eq_true hb,Nat.eq_of_beq_eq_true h]
  ·cases h
 ·simp only [bi_eq] at h
  split at h<;>try (cases h;done)
  rename_i h1
  split at h<;>try (cases h;done)
  rename_i h2
  split at h<;>try (cases h;done)
  rename_i h3
  split at h<;>try (cases h;done)
  rename_i h4
  rw [Nat.eq_of_beq_eq_true h1,Nat.eq_of_beq_eq_true h2,Nat.eq_of_beq_eq_true h3,Nat.eq_of_beq_eq_true h4,Nat.eq_of_beq_eq_true h]
 ·rw [Nat.eq_of_beq_eq_true h]
 ·rw [Nat.eq_of_beq_eq_true h]
 ·cases h
theorem sameL_eq:∀ {a b:List AVal},sameL a b=true->a=b
 | [],[],_=>rfl
 | [],_ :: _,h=>by cases h
 | _ :: _,[],h=>by cases h
 | x :: a,y :: b,h=>by
  have h':bi (same1 x y) (sameL a b) false=true:=h
  rw [bi_eq] at h'
  split at h'
  ·rename_i hx;rw [same1_eq hx,sameL_eq h']
  ·cases h'
theorem sameV_eq {a b:AVal} (h:sameV a b=true):a=b:=by
 unfold sameV at h
 split at h
 ·rw [sameL_eq h]
 ·rw [sameL_eq h]
 ·exact same1_eq h
end Go.Ab
namespace Go.Ab
variable {P:Program} {G:List Nat}
theorem memN_iff {l:List Nat} {n:Nat}:memN l n=true↔n∈l:=by
 induction l with
 | nil=>simp [memN]
 | cons x l ih =>
  show bi (Nat.beq x n) true (memN l n)=true↔_
  rw [bi_eq,nbeq]
  by_cases h:x=n
  ·simp [h]
  ·simp [h,ih,Ne.symm h]
theorem samePath_iff:∀ {a b:List Bool},samePath a b=true↔a=b
 | [],[]=>by simp [samePath]
 | [],_ :: _=>by simp [samePath]
 | _ :: _,[]=>by simp [samePath]
 | x :: a,y :: b=>by
  show bi (x == y) (samePath a b) false=true↔_
  rw [bi_eq]
  by_cases h:x=y
  ·subst h;simp [samePath_iff (a:=a) (b:=b)]
  ·simp [h]
theorem memP_iff {l:List (List Bool)} {p:List Bool}:memP l p=true↔p∈l:=by
 induction l with
 | nil=>simp [memP]
 | cons x l ih =>
  show bi (samePath x p) true (memP l p)=true↔_
  rw [bi_eq]
  by_cases h:x=p
  ·subst h;simp [samePath_iff.2]
  ·have:samePath x p=false:=by
    cases hs:samePath x p with
    | false=>rfl
    | true=>exact absurd (samePath_iff.1 hs) h
   simp [this,ih,Ne.symm h]
theorem hasEm_iff {E:List Em} {n:Nat}:hasEm E n=true↔∃ e∈E,e.i=n:=by
 induction E with
 | nil=>simp [hasEm]
 | cons x l ih =>
  show bi (Nat.beq x.i n) true (hasEm l n)=true↔_
  rw [bi_eq,nbeq]
  by_cases h:x.i=n
  ·simp [h]
  ·simp [h,ih]
theorem allN_iff {f:Nat->Bool} {l:List Nat}:allN f l=true↔∀ n∈l,f n=true:=by
 induction l with
 | nil=>simp [allN]
 | cons x l ih =>
  show bi (f x) (allN f l) false=true↔_
  rw [bi_eq]
  cases h:f x<;>simp [h,ih]
theorem allEm_iff {f:Em->Bool} {l:List Em}:allEm f l=true↔∀ n∈l,f n=true:=by
 induction l with
 | nil=>simp [allEm]
 | cons x l ih =>
  show bi (f x) (allEm f l) false=true↔_
  rw [bi_eq]
  cases h:f x<;>simp [h,ih]
theorem isReady_iff {E:List Em} {i:Nat} {x:DOp}:isReady E i x=true↔(¬ ∃ e∈E,e.i=i)/\∀ d∈x.deps,∃ e∈E,e.i=d:=by
 unfold isReady
 rw [bi_eq]
 by_cases h:hasEm E i=true
 ·rw [if_pos h];simp only [Bool.false_eq_true,false_iff];exact fun k=>k.1 (hasEm_iff.1 h)
 ·rw [if_neg h,allN_iff]
  exact ⟨fun k=>⟨fun e=>h (hasEm_iff.2 e),fun d hd=>hasEm_iff.1 (k d hd)⟩,fun k d hd=>hasEm_iff.2 (k.2 d hd)⟩
theorem readyD_mem {E:List Em}:∀ {xs:List DOp} {k j:Nat} {x:DOp},(j,x)∈readyD E k xs↔k<=j/\xs[j - k]?=some x/\isReady E j x=true
 | [],k,j,x=>by simp [readyD]
 | y :: xs,k,j,x=>by
  have e:readyD E k (y :: xs)=bi (isReady E k y) ((k,y) :: readyD E (k+1) xs) (readyD E (k+1) xs):=rfl
  rw [e,bi_eq]
  have ih:=readyD_mem (E:=E) (xs:=xs) (k:=k+1) (j:=j) (x:=x)
  by_cases hjk:j=k
  ·subst hjk
   have hno:¬ (j,x)∈readyD E (j+1) xs:=fun h=>by have:=(ih.1 h).1;omega
   split
   ·rename_i hr
    simp only [List.mem_cons,Prod.mk.injEq,true_and,hno,or_false,Nat.sub_self,List.getElem?_cons_zero,Option.some.injEq,Nat.le_refl]
    exact ⟨fun h=>by subst h;exact ⟨rfl,hr⟩,fun h=>h.1.symm⟩
   ·rename_i hr
    simp only [hno,Nat.sub_self,List.getElem?_cons_zero,Option.some.injEq,false_iff,Nat.le_refl,true_and]
    rintro ⟨rfl,h⟩;exact hr h
  ·have e2:(k<=j/\(y :: xs)[j - k]?=some x/\isReady E j x=true)↔(k+1<=j/\xs[j - (k+1)]?=some x/\isReady E j x=true):=by
    constructor
    ·rintro ⟨h1,h2,h3⟩
     have:j - k=(j - (k+1))+1:=by omega
     rw [this,List.getElem?_cons_succ] at h2
     exact ⟨by omega,h2,h3⟩
    ·rintro ⟨h1,h2,h3⟩
     have:j - k=(j - (k+1))+1:=by omega
     rw [this,List.getElem?_cons_succ]
     exact ⟨by omega,h2,h3⟩
   rw [e2,<-ih]
   split
   ·simp [hjk]
   ·rfl
theorem firstRead_some {E:List Em} {l:List (Nat×DOp)} {p:Nat×DOp} (h:firstRead E l=some p):p∈l/\p.2.op.kind<=1:=by
 induction l with
 | nil=>cases h
 | cons x l ih =>
  have h:bi (Nat.ble x.2.op.kind 1) (bi (okEm E x.2 (clOf E x.2.deps) false) (some x) (firstRead E l)) (firstRead E l)=some p:=h
  rw [bi_eq,bi_eq] at h
  split at h
  ·rename_i hk
   split at h
   ·cases h;exact ⟨by simp,Nat.le_of_ble_eq_true hk⟩
   ·have:=ih h;exact ⟨by simp [this.1],this.2⟩
  ·have:=ih h;exact ⟨by simp [this.1],this.2⟩
theorem late_spec {x:DOp} (h:x.late=true):x.g=none/\x.deps=[]/\x.op.late=true/\∃ p,x.d=some p:=by
 unfold DOp.late at h
 split at h
 ·rename_i hg hd hp;exact ⟨hg,hd,h,_,hp⟩
 ·cases h
theorem late_kind {op:POp} (h:op.late=true):op.kind=2:=by
 unfold POp.late at h
 split at h<;>first | rfl | cases h
theorem okLate_iff {L:List (Nat×DOp)} {i:Nat} {x:DOp}:okLate L i x=true↔∀ q∈L,q.1≠i->q.2.late=true->∀ p,q.2.d=some p->p∉x.looks/\x.d≠some p:=by
 induction L with
 | nil=>simp [okLate]
 | cons q L ih =>
  show bi (bi (Nat.beq q.1 i) true (bi q.2.late (oe q.2.d true fun q=>bi (memP x.looks q) false (oe x.d true fun q'=>!(samePath q' q))) true)) (okLate L i x) false=true↔_
  have key:bi (Nat.beq q.1 i) true (bi q.2.late (oe q.2.d true fun q=>bi (memP x.looks q) false (oe x.d true fun q'=>!(samePath q' q))) true)=true↔(q.1≠i->q.2.late=true->∀ p,q.2.d=some p->p∉x.looks/\x.d≠some p):=by
   rw [bi_eq,bi_eq,nbeq]
   by_cases h1:q.1=i
   ·simp [h1]
   ·cases h2:q.2.late with
    | false=>simp [h1]
    | true =>
     cases h3:q.2.d with
     | none=>simp [h1]
     | some p =>
      simp only [h1,decide_false,Bool.false_eq_true,if_false,if_true,oe_some,ne_eq,not_false_eq_true,Option.some.injEq,forall_const,forall_eq']
      rw [bi_eq]
      by_cases h4:p∈x.looks
      ·simp [h4,memP_iff.2 h4]
      ·have:memP x.looks p=false:=by
        cases h:memP x.looks p with
        | false=>rfl
        | true=>exact absurd (memP_iff.1 h) h4
       simp only [this,Bool.false_eq_true,if_false,h4,not_false_eq_true,true_and]
       cases h5:x.d with
       | none=>simp
       | some d =>
        simp only [oe_some,Bool.not_eq_true',Option.some.injEq]
        constructor
        ·intro hs e;rw [samePath_iff.2 e] at hs;cases hs
        ·intro hs
         cases h:samePath d p with
         | false=>rfl
         | true=>exact absurd (samePath_iff.1 h) hs
  rw [bi_eq]
  constructor
  ·intro h
   split at h
   ·rename_i hk
    intro q' hq'
    rcases List.mem_cons.1 hq' with rfl | hq'
    ·exact key.1 hk
    ·exact ih.1 h q' hq'
   ·cases h
  ·intro h
   rw [if_pos (key.2 (h q (by simp)))]
   exact ih.2 fun q' hq'=>h q' (by simp [hq'])
theorem anyN_iff {f:Nat->Bool} {l:List Nat}:anyN f l=true↔∃ n∈l,f n=true:=by
 induction l with
 | nil=>simp [anyN]
 | cons x l ih =>
  show bi (f x) true (anyN f l)=true↔_
  rw [bi_eq]
  cases h:f x<;>simp [h,ih]
noncomputable def strike (ps:List (List Bool)) (T:PT AVal):PT AVal:=ps.foldr (fun p T=>T.put none p) T
theorem get_strike (ps:List (List Bool)) (T:PT AVal) (q:List Bool):(strike ps T).get q=if q∈ps then none else T.get q:=by
 induction ps with
 | nil=>simp [strike]
 | cons p ps ih =>
  show ((strike ps T).put none p).get q=_
  rw [PT.get_put,ih]
  by_cases h:p=q
  ·subst h;simp
  ·by_cases h2:q∈ps
   ·simp [h,h2]
   ·simp [h,h2,Ne.symm h]
theorem opd_same {x:Opd} {T T':PT AVal} (h:∀ p∈x.paths,T.get p=T'.get p):x.get T=x.get T':=by
 cases x with
 | t p=>exact h p (by simp [Opd.paths])
 | _=>rfl
theorem looks_same {x:DOp} {T T':PT AVal} (h:∀ p∈x.looks,T.get p=T'.get p) (cf:CallF) (hp:AHeap) (q:Ko):step x.op cf T hp q=step x.op cf T' hp q :=
 step_congr (fun y hy=>opd_same fun p hp=>h p (by
  unfold DOp.looks
  exact List.mem_append_right _ (List.mem_flatMap.2 ⟨y,hy,hp⟩))) cf hp q
noncomputable def DOp.wants (x:DOp) (T:PT AVal):Option Bool:=match x.g with
 | none=>some true
 | some g=>ob (T.get g.1) (gB g.2)
theorem wants_same {x:DOp} {T T':PT AVal} (h:∀ p∈x.looks,T.get p=T'.get p):x.wants T=x.wants T':=by
 unfold DOp.wants
 cases hg:x.g with
 | none=>rfl
 | some g =>
  simp only
  rw [h g.1 (by unfold DOp.looks;rw [hg];simp)]
theorem Holds.same {x:DOp} {T T':PT AVal} (h:∀ p∈x.looks,T.get p=T'.get p) {hp:AHeap} {v:AVal} (k:Holds x.op T hp v):Holds x.op T' hp v :=
 fun cf q hq=>by rw [<-looks_same h];exact k cf q hq
def Delayed (x:DOp) (T:PT AVal) (h:AHeap):Prop :=
 (x.wants T=some true/\∃ v,Holds x.op T h v/\∀ p,x.d=some p->T.get p=some v)\/(x.wants T=some false/\∀ p,x.d=some p->T.get p=some skipV)
theorem Delayed.same {x:DOp} {T T':PT AVal} (h:∀ p∈x.looks,T.get p=T'.get p) (hd:∀ p,x.d=some p->T.get p=T'.get p) {hp:AHeap} (k:Delayed x T hp):Delayed x T' hp:=by
 rcases k with ⟨k1,v,k2,k3⟩ | ⟨k1,k2⟩
 ·exact .inl ⟨by rw [<-wants_same h];exact k1,v,k2.same h,fun p hp=>by rw [<-hd p hp];exact k3 p hp⟩
 ·exact .inr ⟨by rw [<-wants_same h];exact k1,fun p hp=>by rw [<-hd p hp];exact k2 p hp⟩
theorem oper_run {x:DOp} {cf:CallF} {next:Kn} {T:PT AVal} {h:AHeap} (hr:runOper x.oper cf next T h) :
  (x.wants T=some true/\step x.op cf T h fun v h'=>match x.d with | none=>next T h' | some d=>next (T.put v d) h') \/
  (x.wants T=some false/\match x.d with | none=>next T h | some d=>next (T.put (some skipV) d) h):=by
 unfold DOp.oper at hr
 unfold DOp.wants
 cases hg:x.g with
 | none =>
  rw [hg] at hr
  simp only at hr
  left
  refine ⟨rfl,?_⟩
  cases hd:x.d with
  | none=>rw [hd] at hr;exact hr
  | some d=>rw [hd] at hr;exact hr
 | some g =>
  rw [hg] at hr
  simp only at hr
  have hr:runOn g.1 g.2 T (oe x.d (runRun x.op cf next T h) fun d=>runPut x.op d cf next T h) (oe x.d (next T h) fun d=>next (T.put (some skipV) d) h):=hr
  obtain ⟨b,hb,hr⟩:=obP_iff.1 hr
  simp only [hb]
  rw [bi_eq] at hr
  split at hr
  ·rename_i hw
   left
   refine ⟨by rw [hw],?_⟩
   cases hd:x.d with
   | none=>rw [hd] at hr;exact hr
   | some d=>rw [hd] at hr;exact hr
  ·rename_i hw
   right
   refine ⟨by simpa using hw,?_⟩
   cases hd:x.d with
   | none=>rw [hd] at hr;exact hr
   | some d=>rw [hd] at hr;exact hr
theorem chks_run {E:List Em} {cl:List Nat} {cf:CallF} {kn:Kn} {T:PT AVal} {h:AHeap} {ps:List POper} (hr:runOps (chksOf E cl++ps) cf kn T h) :
  runOps ps cf kn T h/\∀ e∈E,e.x.op.kind=1->e.i∉cl->∀ d,e.x.d=some d->(e.x.wants T=some true/\∃ v,Holds e.x.op T h v/\T.get d=some v)\/e.x.wants T=some false:=by
 induction E with
 | nil=>exact ⟨hr,fun e he=>by cases he⟩
 | cons e E ih =>
  have e1:chksOf (e :: E) cl=bi (Nat.beq e.x.op.kind 1) (bi (memN cl e.i) (chksOf E cl) (oe e.x.d (chksOf E cl) fun d=>.chk e.x.g e.x.op d :: chksOf E cl)) (chksOf E cl):=rfl
  rw [e1] at hr
  simp only [bi_eq] at hr
  have skip:runOps (chksOf E cl++ps) cf kn T h->(e.x.op.kind=1->e.i∉cl->∀ d,e.x.d=some d->False) ->
    runOps ps cf kn T h/\∀ e'∈e :: E,e'.x.op.kind=1->e'.i∉cl->∀ d,e'.x.d=some d->(e'.x.wants T=some true/\∃ v,Holds e'.x.op T h v/\T.get d=some v)\/e'.x.wants T=some false:=by
   intro h1 h2
   obtain ⟨i1,i2⟩:=ih h1
   refine ⟨i1,fun e' he' k1 k2 d hd=>?_⟩
   rcases List.mem_cons.1 he' with rfl | he'
   ·exact (h2 k1 k2 d hd).elim
   ·exact i2 e' he' k1 k2 d hd
  split at hr
  ·rename_i hk
   have hk:=Nat.eq_of_beq_eq_true hk
   split at hr
   ·rename_i hm
    exact skip hr fun _ h2=>absurd (memN_iff.1 hm) h2
   ·cases hd:e.x.d with
    | none=>rw [hd] at hr;exact skip hr fun _ _ d hd'=>by rw [hd] at hd';cases hd'
    | some d =>
     rw [hd] at hr
     have hr:runOper (.chk e.x.g e.x.op d) cf (runOps (chksOf E cl++ps) cf kn) T h:=hr
     have chk:runChk e.x.op d cf T h (runOps (chksOf E cl++ps) cf kn T h)->runOps (chksOf E cl++ps) cf kn T h/\∃ v,Holds e.x.op T h v/\T.get d=some v:=by
      intro hc
      obtain ⟨f,f1,_⟩:=step_read (op:=e.x.op) (by omega) T
      obtain ⟨v,hq,_,hh⟩:=holds_of f1 hc
      rw [bi_eq] at hq
      split at hq
      ·rename_i hs
       simp only [oe_some] at hs
       cases hT:T.get d with
       | none=>rw [hT] at hs;cases hs
       | some u =>
        rw [hT] at hs
        exact ⟨hq,v,hh,by rw [sameV_eq hs]⟩
      ·exact hq.elim
     have fin:runOps (chksOf E cl++ps) cf kn T h->((e.x.wants T=some true/\∃ v,Holds e.x.op T h v/\T.get d=some v)\/e.x.wants T=some false) ->
       runOps ps cf kn T h/\∀ e'∈e :: E,e'.x.op.kind=1->e'.i∉cl->∀ d,e'.x.d=some d->(e'.x.wants T=some true/\∃ v,Holds e'.x.op T h v/\T.get d=some v)\/e'.x.wants T=some false:=by
      intro h1 h2
      obtain ⟨i1,i2⟩:=ih h1
      refine ⟨i1,fun e' he' k1 k2 d' hd'=>?_⟩
      rcases List.mem_cons.1 he' with rfl | he'
      ·rw [hd] at hd';cases hd';exact h2
      ·exact i2 e' he' k1 k2 d' hd'
     cases hg:e.x.g with
     | none =>
      rw [hg] at hr
      obtain ⟨h1,h2⟩:=chk hr
      exact fin h1 (.inl ⟨by simp [DOp.wants,hg],h2⟩)
     | some g =>
      rw [hg] at hr
      obtain ⟨b,hb,hr⟩:=obP_iff.1 (show runOn g.1 g.2 T (runChk e.x.op d cf T h (runOps (chksOf E cl++ps) cf kn T h)) (runOps (chksOf E cl++ps) cf kn T h) from hr)
      have hw:e.x.wants T=some b:=by
       simp only [DOp.wants,hg];exact hb
      rw [bi_eq] at hr
      split at hr
      ·rename_i hb
       obtain ⟨h1,h2⟩:=chk hr
       exact fin h1 (.inl ⟨by rw [hw,hb],h2⟩)
      ·rename_i hb
       exact fin hr (.inr (by rw [hw];simpa using hb))
  ·rename_i hk
   exact skip hr fun h1 _=>absurd (by rw [h1];rfl) hk
end Go.Ab
namespace Go.Ab
variable {P:Program} {G:List Nat}
def Closed (xs:List DOp) (S:Nat->Prop):Prop:=∀ i x,S i->xs[i]?=some x->∀ d∈x.deps,S d
def Ord:List Em->Prop
 | []=>True
 | e :: E=>(∀ d∈e.x.deps,∃ e'∈E,e'.i=d)/\Ord E
section
variable {xs:List DOp}
structure Good (xs:List DOp) (E:List Em):Prop where
 at_:∀ e∈E,xs[e.i]?=some e.x
 ord:Ord E
 cl:∀ e∈E,∀ S,Closed xs S->(∀ d∈e.x.deps,S d)->∀ n∈e.cl,S n
 sep:∀ e∈E,∀ e'∈E,∀ p,e'.x.d=some p->p∈e.x.looks->e'.wr=true\/∀ S,Closed xs S->(∀ d∈e.x.deps,S d)->S e'.i
 dist:∀ e∈E,∀ e'∈E,e.i≠e'.i->∀ p,e.x.d=some p->e'.x.d≠some p
 read:∀ e∈E,e.x.op.kind=1->e.x.d≠none
 late:∀ e∈E,∀ i x,xs[i]?=some x->x.late=true->(¬ ∃ e'∈E,e'.i=i)->∀ p,x.d=some p->p∉e.x.looks/\e.x.d≠some p
theorem Good.nil:Good xs []:=⟨fun e h=>(by cases h),trivial,fun e h=>(by cases h),fun e h=>(by cases h),fun e h=>(by cases h),fun e h=>(by cases h),fun e h=>(by cases h)⟩
theorem Good.uniq {E:List Em} (g:Good xs E) {e e':Em} (h:e∈E) (h':e'∈E) (hi:e.i=e'.i):e.x=e'.x:=by
 have h1:=g.at_ e h
 have h2:=g.at_ e' h'
 rw [hi,h2] at h1
 exact (Option.some.inj h1).symm
theorem okEm_spec {E:List Em} {x:DOp} {cl:List Nat} {w:Bool} (h:okEm E x cl w=true) :
  (∀ e∈E,∀ p,e.x.d=some p->p∈x.looks->e.i∈cl)/\(x.op.kind=1->x.d≠none)/\∀ p,x.d=some p->p∉x.looks/\∀ e∈E,(p∈e.x.looks->w=true/\e.i∈cl)/\e.x.d≠some p:=by
 unfold okEm at h
 rw [bi_eq] at h
 split at h
 ·rename_i h1
  rw [allEm_iff] at h1
  refine ⟨fun e he p hp hl=>?_,fun hk hn=>?_,fun p hp=>?_⟩
  ·have:=h1 e he
   rw [hp] at this
   simp only [oe_some,bi_eq] at this
   rw [if_pos (memP_iff.2 hl)] at this
   exact memN_iff.1 this
  ·rw [hn] at h
   simp only [oe_none,bi_eq,hk] at h
   exact absurd h (by decide)
  ·rw [hp] at h
   simp only [oe_some] at h
   rw [bi_eq] at h
   split at h
   ·cases h
   ·rename_i h2
    refine ⟨fun hl=>h2 (memP_iff.2 hl),fun e he=>?_⟩
    have h3:bi (bi (memP e.x.looks p) (bi w (memN cl e.i) false) true) (oe e.x.d true fun p'=>!(samePath p' p)) false=true:=allEm_iff.1 h e he
    rw [bi_eq] at h3
    split at h3
    ·rename_i h4
     refine ⟨fun hl=>?_,fun hd=>?_⟩
     ·rw [memP_iff.2 hl,bi_true,bi_eq] at h4
      split at h4
      ·rename_i hw;exact ⟨hw,memN_iff.1 h4⟩
      ·cases h4
     ·rw [hd] at h3
      simp only [oe_some] at h3
      rw [samePath_iff.2 rfl] at h3
      cases h3
    ·cases h3
 ·cases h
theorem late_ready {E:List Em} {j:Nat} {y:DOp} (hy:xs[j]?=some y) (hl:y.late=true) (hno:¬ ∃ e∈E,e.i=j):(j,y)∈readyD E 0 xs :=
 readyD_mem.2 ⟨Nat.zero_le _,by simpa using hy,isReady_iff.2 ⟨hno,by rw [(late_spec hl).2.1];simp⟩⟩
theorem Good.cons {E:List Em} (g:Good xs E) {i:Nat} {x:DOp} (hx:xs[i]?=some x) (hr:isReady E i x=true) {wr:Bool} (ok:okEm E x (clOf E x.deps) wr=true) (okl:okLate (readyD E 0 xs) i x=true):Good xs (⟨i,x,clOf E x.deps,wr⟩ :: E):=by
 obtain ⟨o1,o2,o3⟩:=okEm_spec ok
 obtain ⟨r1,r2⟩:=isReady_iff.1 hr
 have hcl:∀ S,Closed xs S->(∀ d∈x.deps,S d)->∀ n∈clOf E x.deps,S n:=by
  intro S hS hd n hn
  unfold clOf at hn
  rcases List.mem_append.1 hn with hn | hn
  ·exact hd n hn
  ·obtain ⟨e,he,hn⟩:=List.mem_flatMap.1 hn
   rw [bi_eq] at hn
   split at hn
   ·rename_i hm
    exact g.cl e he S hS (fun d hd'=>hS e.i e.x (hd _ (memN_iff.1 hm)) (g.at_ e he) d hd') n hn
   ·cases hn
 refine ⟨fun e he=>?_,⟨r2,g.ord⟩,fun e he=>?_,fun e he e' he' p hp hl=>?_,fun e he e' he' hne p hp=>?_,fun e he=>?_,fun e he j y hy hl hno p hp=>?_⟩
 ·rcases List.mem_cons.1 he with rfl | he
  ·exact hx
  ·exact g.at_ e he
 ·rcases List.mem_cons.1 he with rfl | he
  ·exact hcl
  ·exact g.cl e he
 ·rcases List.mem_cons.1 he with rfl | he
  ·rcases List.mem_cons.1 he' with rfl | he'
   ·exact absurd hl (o3 p hp).1
   ·exact .inr fun S hS hd=>hcl S hS hd _ (o1 e' he' p hp hl)
  ·rcases List.mem_cons.1 he' with rfl | he'
   ·exact .inl (((o3 p hp).2 e he).1 hl).1
   ·exact g.sep e he e' he' p hp hl
 ·rcases List.mem_cons.1 he with rfl | he
  ·rcases List.mem_cons.1 he' with rfl | he'
   ·exact absurd rfl hne
   ·exact ((o3 p hp).2 e' he').2
  ·rcases List.mem_cons.1 he' with rfl | he'
   ·intro hp'
    exact ((o3 p hp').2 e he).2 hp
   ·exact g.dist e he e' he' hne p hp
 ·rcases List.mem_cons.1 he with rfl | he
  ·exact o2
  ·exact g.read e he
 ·have hno':¬ ∃ e'∈E,e'.i=j:=fun ⟨e',h1,h2⟩=>hno ⟨e',by simp [h1],h2⟩
  rcases List.mem_cons.1 he with rfl | he
  ·refine okLate_iff.1 okl (j,y) (late_ready hy hl hno') (fun e=>hno ⟨_,List.mem_cons_self,e.symm⟩) hl p hp
  ·exact g.late e he j y hy hl hno' p hp
theorem Ord.first {E:List Em} (o:Ord E) {S:Nat->Prop} (h:∃ e∈E,¬ S e.i):∃ e∈E,¬ S e.i/\∀ d∈e.x.deps,S d:=by
 induction E with
 | nil=>obtain ⟨e,he,_⟩:=h;cases he
 | cons e E ih =>
  by_cases hE:∃ e∈E,¬ S e.i
  ·obtain ⟨e',h1,h2,h3⟩:=ih o.2 hE
   exact ⟨e',by simp [h1],h2,h3⟩
  ·obtain ⟨e',he',hn⟩:=h
   rcases List.mem_cons.1 he' with rfl | he'
   ·refine ⟨e',by simp,hn,fun d hd=>?_⟩
    obtain ⟨e2,h1,rfl⟩:=o.1 d hd
    exact Classical.byContradiction fun hc=>hE ⟨e2,h1,hc⟩
   ·exact absurd ⟨e',he',hn⟩ hE
variable {nt:Nat} {ρ₀:Rho} {h₀:AHeap} {w₀:World}
def AheadAt (P:Program) (ρ:Rho) (h:AHeap) (w w₀:World) (op:POp) (V:Value):Prop:=∃ (L:Loc) (b:ABlock) (v:Nat->AVal),w₀.heap.size<=L.blk/\L.blk < w.heap.size/\¬ Held ρ h L.blk/\L.base=0 /\
 (∀ ρ',BRel P ρ' L w b)/\(∀ ρ' n,ρ' n=some L->VRel ρ' (v n) V)/\(∀ cf T h q,step op cf T h q->q (some (v h.next)) (h.new b))
def Ahead (P:Program) (xs:List DOp) (E:List Em) (ρ:Rho) (h:AHeap) (a:Act) (w w₀:World) (i:Nat):Prop :=
 ∃ x d V,xs[i]?=some x/\x.late=true/\(¬ ∃ e∈E,e.i=i)/\x.d=some (path d)/\a.tmps[d]?=some V/\AheadAt P ρ h w w₀ x.op V
theorem AheadAt.keep {ρ ρ':Rho} {h h':AHeap} {w w' w₀:World} {op:POp} {V:Value} (k:AheadAt P ρ h w w₀ op V) (x:Ext ρ h w ρ' h' w'):AheadAt P ρ' h' w' w₀ op V:=by
 obtain ⟨L,b,v,k1,k2,k3,k4,k5,k6,k7⟩:=k
 have hf:=x.frame L.blk k2 fun ⟨id,b,L,h1,_,h3⟩=>k3 ⟨id,b,L,h1,h3⟩
 exact ⟨L,b,v,k1,Nat.lt_of_lt_of_le k2 x.size,fun hh=>k3 (x.held _ k2 hh),k4,fun ρ''=>(k5 ρ'').keep hf (Rho.le_refl _),k6,k7⟩
structure Inv (P:Program) (G:List Nat) (nt:Nat) (ρ₀:Rho) (h₀:AHeap) (w₀:World) (xs:List DOp) (S:Nat->Prop) (E:List Em) (ρ:Rho) (T:PT AVal) (h:AHeap) (a:Act) (w:World):Prop where
 sub:∀ i,S i->(∃ e∈E,e.i=i)\/Ahead P xs E ρ h a w w₀ i
 closed:Closed xs S
 good:Good xs E
 delayed:∀ e∈E,¬ S e.i->(e.x.op.kind<=1/\Delayed e.x T h)/\e.wr=false
 sim:Sim P G ρ h w
 ext:Ext ρ₀ h₀ w₀ ρ h w
 tmps:∀ t v,T.get (path t)=some v->(∃ e∈E,¬ S e.i/\e.x.d=some (path t))\/(∃ i x,xs[i]?=some x/\x.late=true/\(¬ ∃ e∈E,e.i=i)/\S i/\x.d=some (path t))\/∃ V,a.tmps[t]?=some V/\VRel ρ v V
 size:nt<=a.tmps.size
 defers:a.defers=[]
theorem strike_exists (E:List Em) (S:Nat->Prop):∃ ps:List (List Bool),∀ p,p∈ps↔∃ e∈E,¬ S e.i/\e.x.d=some p:=by
 induction E with
 | nil=>exact ⟨[],by simp⟩
 | cons e E ih =>
  obtain ⟨ps,h⟩:=ih
  by_cases hs:S e.i
  ·exact ⟨ps,fun p=>by rw [h];simp [hs]⟩
  ·cases hd:e.x.d with
   | none=>exact ⟨ps,fun p=>by rw [h];simp [hd]⟩
   | some d=>exact ⟨d :: ps,fun p=>by simp [h,hs,hd,eq_comm]⟩
theorem strike_late:∀ (xs:List DOp) (R:Nat->DOp->Prop),∃ ps:List (List Bool),∀ p,p∈ps↔∃ i x,xs[i]?=some x/\R i x/\x.d=some p
 | [],R=>⟨[],by simp⟩
 | x :: xs,R=>by
  obtain ⟨ps,h⟩:=strike_late xs fun i x=>R (i+1) x
  have step:∀ p,(∃ i y,(x :: xs)[i]?=some y/\R i y/\y.d=some p)↔(R 0 x/\x.d=some p)\/∃ i y,xs[i]?=some y/\R (i+1) y/\y.d=some p:=by
   intro p
   constructor
   ·rintro ⟨i,y,h1,h2,h3⟩
    cases i with
    | zero=>simp at h1;subst h1;exact .inl ⟨h2,h3⟩
    | succ i=>exact .inr ⟨i,y,by simpa using h1,h2,h3⟩
   ·rintro (⟨h1,h2⟩ | ⟨i,y,h1,h2,h3⟩)
    ·exact ⟨0,x,by simp,h1,h2⟩
    ·exact ⟨i+1,y,by simpa using h1,h2,h3⟩
  by_cases hs:R 0 x
  ·cases hd:x.d with
   | none=>exact ⟨ps,fun p=>by rw [step,h];simp [hd]⟩
   | some d=>exact ⟨d :: ps,fun p=>by rw [step,List.mem_cons,h];simp [hs,hd,eq_comm]⟩
  ·exact ⟨ps,fun p=>by rw [step,h];simp [hs]⟩
theorem Inv.view {S:Nat->Prop} {E:List Em} {ρ:Rho} {T:PT AVal} {h:AHeap} {a:Act} {w:World} (I:Inv P G nt ρ₀ h₀ w₀ xs S E ρ T h a w) {x:DOp} (hd:∀ d∈x.deps,S d)
  (hsep:∀ e'∈E,∀ p,e'.x.d=some p->p∈x.looks->e'.wr=true\/∀ S,Closed xs S->(∀ d∈x.deps,S d)->S e'.i)
  (hlate:∀ i y,xs[i]?=some y->y.late=true->(¬ ∃ e∈E,e.i=i)->S i->∀ p,y.d=some p->p∉x.looks) :
  ∃ T',TRel ρ T' a.tmps/\∀ p∈x.looks,T.get p=T'.get p:=by
 obtain ⟨ps,hps⟩:=strike_exists E S
 obtain ⟨qs,hqs⟩:=strike_late xs fun i y=>y.late=true/\(¬ ∃ e∈E,e.i=i)/\S i
 refine ⟨strike (ps++qs) T,fun t v hv=>?_,fun p hp=>?_⟩
 ·rw [get_strike] at hv
  split at hv
  ·cases hv
  ·rename_i hn
   rw [List.mem_append] at hn
   rcases I.tmps t v hv with k | ⟨i,y,k1,k2,k3,k4,k5⟩ | k
   ·exact absurd (.inl ((hps _).2 k)) hn
   ·exact absurd (.inr ((hqs _).2 ⟨i,y,k1,⟨k2,k3,k4⟩,k5⟩)) hn
   ·exact k
 ·rw [get_strike,if_neg]
  intro hm
  rcases List.mem_append.1 hm with hm | hm
  ·obtain ⟨e',he',hn,hd'⟩:=(hps p).1 hm
   rcases hsep e' he' p hd' hp with hw | hs
   ·rw [(I.delayed e' he' hn).2] at hw;cases hw
   ·exact hn (hs S I.closed hd)
  ·obtain ⟨i,y,k1,⟨k2,k3,k4⟩,k5⟩:=(hqs p).1 hm
   exact hlate i y k1 k2 k3 k4 p k5 hp
end
end Go.Ab
namespace Go.Ab
variable {P:Program} {G:List Nat} {nt:Nat} {ops:Array Oper}
theorem cDOp_eq {o:Oper} {x:DOp} (h:cDOp P G nt ops o=some x):x.op=cOp P G nt o.op/\x.deps=(o.after.toList.filter (Region.binds .any)).map (·.on)/\cDst nt o.dst=some x.d/\cGuard nt ops o.guard=some x.g:=by
 unfold cDOp at h
 split at h
 ·rename_i d g h1 h2;cases h;exact ⟨rfl,rfl,h1,h2⟩
 ·cases h
theorem cDOps_get:∀ {os:List Oper} {xs:List DOp},cDOps P G nt ops os=some xs->xs.length=os.length/\∀ (i:Nat) (o:Oper),os[i]?=some o->∃ x,xs[i]?=some x/\cDOp P G nt ops o=some x
 | [],xs,h=>by simp only [cDOps,Option.some.injEq] at h;subst h;exact ⟨rfl,fun i o h=>by simp at h⟩
 | o :: os,xs,h=>by
  simp only [cDOps] at h
  split at h
  ·rename_i x xs' h1 h2
   cases h
   obtain ⟨g1,g2⟩:=cDOps_get h2
   refine ⟨by simp [g1],fun i o' ho=>?_⟩
   cases i with
   | zero=>simp at ho;subst ho;exact ⟨x,by simp,h1⟩
   | succ i=>simp at ho;obtain ⟨y,y1,y2⟩:=g2 i o' ho;exact ⟨y,by simpa using y1,y2⟩
  ·cases h
theorem wants_wanted {o:Oper} {x:DOp} (hx:cDOp P G nt ops o=some x) {ρ:Rho} {T:PT AVal} {a:Act} (hT:TRel ρ T a.tmps) {b:Bool} (hw:x.wants T=some b):Region.wanted o (yielded ops a.tmps)=b:=by
 obtain ⟨_,_,_,hg⟩:=cDOp_eq hx
 unfold DOp.wants at hw
 cases hgo:o.guard with
 | none =>
  rw [hgo] at hg
  simp only [cGuard,Option.some.injEq] at hg
  rw [<-hg] at hw
  simp only [Option.some.injEq] at hw
  subst hw
  simp [Region.wanted,hgo]
 | some jw =>
  obtain ⟨j,want⟩:=jw
  rw [hgo] at hg
  simp only [cGuard] at hg
  split at hg
  ·rename_i g hj
   split at hg
   ·rename_i e he
    cases hb:Nat.blt e nt with
    | false=>rw [hb] at hg;simp at hg
    | true =>
     rw [hb] at hg
     simp only [cond_true,Option.some.injEq] at hg
     rw [<-hg] at hw
     simp only at hw
     obtain ⟨v,hv,hw⟩:=ob_eq.1 hw
     obtain ⟨V,h1,h2⟩:=hT e _ hv
     rcases gB_eq.1 hw with ⟨c,rfl,rfl⟩ | ⟨rfl,rfl⟩
     ·simp only [VRel] at h2
      subst h2
      simp [Region.wanted,hgo,yielded,hj,he,h1]
     ·obtain ⟨VS,rfl,h3⟩:=h2
      simp [Region.wanted,hgo,yielded,hj,he,h1]
   ·cases hg
  ·cases hg
theorem Ahead.keep {xs:List DOp} {E:List Em} {ρ ρ':Rho} {h h':AHeap} {a:Act} {w w' w₀:World} {i:Nat} (k:Ahead P xs E ρ h a w w₀ i) (x:Ext ρ h w ρ' h' w') {dst:Option Tmp} {q:Option (List Bool)} (hq:cDst nt dst=some q) {V:Value}
  (hne:∀ y,xs[i]?=some y->∀ p,y.d=some p->q≠some p):Ahead P xs E ρ' h' (a.put dst V) w' w₀ i:=by
 obtain ⟨y,d,U,k1,k2,k3,k4,k5,k6⟩:=k
 refine ⟨y,d,U,k1,k2,k3,k4,?_,k6.keep x⟩
 cases q with
 | none=>rw [cDst_none hq];exact k5
 | some p =>
  obtain ⟨t,rfl,_,rfl⟩:=cDst_some hq
  simp only [Act.put]
  rw [Array.getElem?_setIfInBounds,if_neg]
  ·exact k5
  ·intro e;subst e;exact hne y k1 _ k4 rfl
section
variable {xs:List DOp} {ρ₀:Rho} {h₀:AHeap} {w₀:World} {S:Nat->Prop} {E:List Em} {ρ:Rho} {T:PT AVal} {h:AHeap} {a:Act} {w:World}
theorem do_delayed (I:Inv P G nt ρ₀ h₀ w₀ xs S E ρ T h a w) {e:Em} (he:e∈E) (hn:¬ S e.i) (hd:∀ d∈e.x.deps,S d) {o:Oper} (ho:ops[e.i]?=some o) (hx:cDOp P G nt ops o=some e.x)
  {Q:Exit->Act->World->Prop} {K:Act->World->Prop} (HK:∀ ρ' a' w',Inv P G nt ρ₀ h₀ w₀ xs (fun n=>S n\/n=e.i) E ρ' T h a' w'->K a' w'):wpOp P ops Q e.i K a w:=by
 obtain ⟨T',hT',hsame⟩:=I.view hd (fun e' he' p hp hl=>I.good.sep e he e' he' p hp hl) (fun i y h1 h2 h3 _ p hp=>(I.good.late e he i y h1 h2 h3 p hp).1)
 obtain ⟨x1,x2,x3,x4⟩:=cDOp_eq hx
 obtain ⟨⟨hk,hdel⟩,_⟩:=I.delayed e he hn
 have hclosed:Closed xs (fun n=>S n\/n=e.i):=by
  intro i x hi hxi d hdx
  rcases hi with hi | rfl
  ·exact .inl (I.closed i x hi hxi d hdx)
  ·have:=I.good.at_ e he
   rw [hxi] at this;cases this
   exact .inl (hd d hdx)
 have main:∀ {ρ':Rho} {w':World} {V:Value},Sim P G ρ' h w'->Ext ρ h w ρ' h w'->(∀ p v,e.x.d=some p->T.get p=some v->VRel ρ' v V)->K (a.put o.dst V) w':=by
  intro ρ' w' V sm ex hv
  have hsub:∀ i,(S i\/i=e.i)->(∃ e∈E,e.i=i)\/Ahead P xs E ρ' h (a.put o.dst V) w' w₀ i:=by
   rintro i (hi | rfl)
   ·rcases I.sub i hi with k | k
    ·exact .inl k
    ·refine .inr (k.keep ex x3 fun y hy p hp=>?_)
     obtain ⟨y',d',V',k1,k2,k3,k4,k5,k6⟩:=k
     rw [hy] at k1;cases k1
     exact (I.good.late e he i y hy k2 k3 p hp).2
   ·exact .inl ⟨e,he,rfl⟩
  refine HK ρ' _ w' ⟨hsub,hclosed,I.good,fun e' he' hn'=>I.delayed e' he' fun q=>hn' (.inl q),sm,I.ext.trans ex,fun t v ht=>?_,by rw [put_size];exact I.size,by rw [put_tmps];exact I.defers⟩
  cases hxd:e.x.d with
  | none =>
   rw [hxd] at x3
   rw [cDst_none x3]
   rcases I.tmps t v ht with ⟨e',he',hn',hd'⟩ | ⟨i,y,g1,g2,g3,g4,g5⟩ | ⟨U,hU,r⟩
   ·left
    refine ⟨e',he',fun q=>q.elim hn' fun q=>?_,hd'⟩
    rw [I.good.uniq he' he q,hxd] at hd';cases hd'
   ·exact .inr (.inl ⟨i,y,g1,g2,g3,.inl g4,g5⟩)
   ·exact .inr (.inr ⟨U,hU,r.mono (ex.le I.sim) _ _⟩)
  | some p =>
   rw [hxd] at x3
   obtain ⟨d,hod,hdn,rfl⟩:=cDst_some x3
   rw [hod]
   by_cases hdt:d=t
   ·subst hdt
    right;right
    refine ⟨V,?_,hv _ v hxd ht⟩
    have hs:=I.size
    simp only [Act.put]
    rw [Array.getElem?_setIfInBounds,if_pos rfl,if_pos (Nat.lt_of_lt_of_le hdn hs)]
   ·rcases I.tmps t v ht with ⟨e',he',hn',hd'⟩ | ⟨i,y,g1,g2,g3,g4,g5⟩ | ⟨U,hU,r⟩
    ·left
     refine ⟨e',he',fun q=>q.elim hn' fun q=>?_,hd'⟩
     rw [I.good.uniq he' he q,hxd] at hd'
     exact hdt (path_inj (Option.some.inj hd'))
    ·exact .inr (.inl ⟨i,y,g1,g2,g3,.inl g4,g5⟩)
    ·right;right
     refine ⟨U,?_,r.mono (ex.le I.sim) _ _⟩
     simp only [Act.put]
     rw [Array.getElem?_setIfInBounds,if_neg hdt];exact hU
 unfold wpOp
 simp only [ho]
 rcases hdel with ⟨d1,v,d2,d3⟩ | ⟨d1,d2⟩
 ·rw [wants_same hsame] at d1
  rw [wants_wanted hx hT' d1,if_pos rfl]
  left
  have hs:step (cOp P G nt o.op) (fun _ _ _ _=>False) T' h (fun u h'=>u=some v/\h'=h):=by
   rw [<-x1]
   exact (d2.same hsame) _ _ ⟨rfl,rfl⟩
  refine oper_wp o I.sim hT' (fun _ _ _ _ k=>k.elim) hs fun V u ρ' h' w' hu sm ex hq=>?_
  obtain ⟨rfl,rfl⟩:=hq
  exact main sm ex fun p v' hp hv'=>by rw [d3 p hp] at hv';cases hv';exact hu v rfl
 ·rw [wants_same hsame] at d1
  rw [wants_wanted hx hT' d1,if_neg (by decide)]
  exact main I.sim (Ext.refl _ _ _) fun p v' hp hv'=>by rw [d2 p hp] at hv';cases hv';exact skip_rel _
theorem Inv.tell (I:Inv P G nt ρ₀ h₀ w₀ xs S E ρ T h a w) {i:Nat} {x:DOp} (hx:xs[i]?=some x) (hr:isReady E i x=true) (ok:okEm E x (clOf E x.deps) false=true) (okl:okLate (readyD E 0 xs) i x=true) (hk:x.op.kind<=1) {T₁:PT AVal}
  (hT:match x.d with | none=>T₁=T | some d=>(∃ v,T₁=T.put v d)) (hdel:Delayed x T₁ h):Inv P G nt ρ₀ h₀ w₀ xs S (⟨i,x,clOf E x.deps,false⟩ :: E) ρ T₁ h a w:=by
 obtain ⟨o1,o2,o3⟩:=okEm_spec ok
 have hna:∀ {ρ:Rho} {h:AHeap} {a:Act} {w:World},¬ Ahead P xs E ρ h a w w₀ i:=by
  rintro _ _ _ _ ⟨y,d,V,k1,k2,_⟩
  rw [hx] at k1;cases k1
  have:=late_kind (late_spec k2).2.2.1
  omega
 have hni:¬ S i:=fun hs=>(I.sub i hs).elim (isReady_iff.1 hr).1 hna
 have hkeep:∀ p,x.d≠some p->T.get p=T₁.get p:=by
  intro p hp
  cases hd:x.d with
  | none=>rw [hd] at hT;simp only at hT;rw [hT]
  | some d =>
   rw [hd] at hT
   simp only at hT
   obtain ⟨v,rfl⟩:=hT
   rw [PT.get_put_ne]
   intro e;subst e;exact hp hd
 refine ⟨fun j hj=>?_,I.closed,I.good.cons hx hr ok okl,fun e he hn=>?_,I.sim,I.ext,fun t v ht=>?_,I.size,I.defers⟩
 ·rcases I.sub j hj with ⟨e,h1,h2⟩ | ⟨y,d,V,k1,k2,k3,k4⟩
  ·exact .inl ⟨e,by simp [h1],h2⟩
  ·refine .inr ⟨y,d,V,k1,k2,?_,k4⟩
   rintro ⟨e,h1,h2⟩
   rcases List.mem_cons.1 h1 with rfl | h1
   ·(try simp only at h2);subst h2;exact hni hj
   ·exact k3 ⟨e,h1,h2⟩
 ·rcases List.mem_cons.1 he with rfl | he
  ·exact ⟨⟨hk,hdel⟩,rfl⟩
  ·obtain ⟨⟨k1,k2⟩,k3⟩:=I.delayed e he hn
   refine ⟨⟨k1,k2.same (fun p hp=>hkeep p fun q=>absurd (((o3 p q).2 e he).1 hp).1 (by decide)) fun p hp=>hkeep p fun q=>((o3 p q).2 e he).2 hp⟩,k3⟩
 ·by_cases hxd:x.d=some (path t)
  ·exact .inl ⟨_,List.mem_cons_self,hni,hxd⟩
  ·rw [<-hkeep _ hxd] at ht
   rcases I.tmps t v ht with ⟨e,he,h2⟩ | ⟨j,y,g1,g2,g3,g4,g5⟩ | h2
   ·exact .inl ⟨e,by simp [he],h2⟩
   ·refine .inr (.inl ⟨j,y,g1,g2,?_,g4,g5⟩)
    rintro ⟨e,h1,h2⟩
    rcases List.mem_cons.1 h1 with rfl | h1
    ·(try simp only at h2);subst h2;exact hni g4
    ·exact g3 ⟨e,h1,h2⟩
   ·exact .inr (.inr h2)
theorem late_run {o:Oper} {x:DOp} (hx:cDOp P G nt ops o=some x) (hl:x.late=true) (a:Act) (w:World) :
  ∃ V w' obj,(execOp a.eval o).run P w=.ok (.value V) w'/\w'={ w with heap:=w.heap.push obj } /\
   ∃ (L:Loc) (b:ABlock) (v:Nat->AVal),L.blk=w.heap.size/\L.base=0/\(∀ ρ',BRel P ρ' L w' b)/\(∀ ρ' n,ρ' n=some L->VRel ρ' (v n) V)/\(∀ cf T h q,step x.op cf T h q->q (some (v h.next)) (h.new b)):=by
 obtain ⟨h1,h2,h3,_⟩:=late_spec hl
 obtain ⟨x1,_,_,_⟩:=cDOp_eq hx
 obtain ⟨dst,op,ty,pos,after,guard⟩:=o
 simp only at x1
 rw [x1] at h3 ⊢
 have kind:=late_kind h3
 cases op with
 | alloc t =>
  simp only [cOp] at h3 ⊢
  cases hz:zeroT P t with
  | none=>rw [hz] at h3;simp [POp.late] at h3
  | some z =>
   obtain ⟨Z,zr,zv⟩:=zeroT_run hz
   refine ⟨.pointer (some ⟨w.heap.size,0,none⟩),_,.cells Z.cells t,?_,rfl,⟨w.heap.size,0,Z.cells.size⟩,.cells z.cells.length (ofList z.cells) 0,fun n=>.ptr n 0,rfl,rfl,fun ρ'=>?_,fun ρ' n hn=>?_,fun cf T h q hs=>hs⟩
   ·simp [execOp,vS,Instr.alloc,zr,newVar,newRow,newObj,Sem.run]
   ·have hc:=(zv ρ').cells
    have hlen:=hc.length
    refine ⟨Z.cells,t,(0,0),by simp,rfl,by simp at hlen;simp;omega,fun i hi v hv=>?_,fun _ i _ _=>by simp,fun _=>rfl⟩
    rw [get_ofList] at hv
    obtain ⟨V,e1,e2⟩:=hc.get hv
    exact ⟨V,by simpa using e1,e2⟩
   ·exact ⟨_,hn,rfl⟩
 | makeMap t r =>
  simp only [cOp] at h3 ⊢
  split at h3
  ·rename_i kt et hu
   split at h3
   ·refine ⟨.map (some w.heap.size),_,.map #[] 0,?_,rfl,⟨w.heap.size,0,0⟩,.map kt [] 0,fun n=>.map n,rfl,rfl,fun ρ'=>⟨rfl,fun e he=>(by cases he),[],by simp,rfl⟩,fun ρ' n hn=>⟨_,hn,rfl⟩,fun cf T h q hs=>?_⟩
    ·simp [execOp,vS,Instr.makeMap,newObj,Sem.run]
    ·exact hs
   ·simp [POp.late] at h3
  ·simp [POp.late] at h3
 | _ =>
  exfalso
  simp only [cOp] at h3
  repeat' split at h3
  all_goals (try simp only [cOp.up,cBuiltin,Bool.cond_eq_ite] at h3)
  all_goals repeat' split at h3
  all_goals simp [POp.late] at h3
end
end Go.Ab
namespace Go.Ab
variable {P:Program} {G:List Nat} {nt:Nat} {ops:Array Oper}
section
variable {xs:List DOp} {ρ₀:Rho} {h₀:AHeap} {w₀:World} {S:Nat->Prop} {E:List Em} {ρ:Rho} {T:PT AVal} {h:AHeap} {a:Act} {w:World} {cf:CallF} {kn:Kn}
noncomputable def putO (d:Option (List Bool)) (v:Option AVal) (T:PT AVal):PT AVal:=match d with
 | none=>T
 | some d=>T.put v d
theorem putO_ne {d:Option (List Bool)} {v:Option AVal} {T:PT AVal} {p:List Bool} (h:d≠some p):(putO d v T).get p=T.get p:=by
 cases d with
 | none=>rfl
 | some d=>exact PT.get_put_ne fun e=>h (by rw [e])
theorem oper_run' {x:DOp} {next:Kn} (hr:runOper x.oper cf next T h) :
  (x.wants T=some true/\step x.op cf T h fun v h'=>next (putO x.d v T) h')\/(x.wants T=some false/\next (putO x.d (some skipV) T) h):=by
 rcases oper_run hr with ⟨h1,h2⟩ | ⟨h1,h2⟩
 ·left
  refine ⟨h1,?_⟩
  cases hd:x.d<;>rw [hd] at h2<;>exact h2
 ·right
  refine ⟨h1,?_⟩
  cases hd:x.d<;>rw [hd] at h2<;>exact h2
theorem holds_keep {op:POp} (hk:op.kind=0) {v:AVal} (k:Holds op T h v) (h':AHeap):Holds op T h' v:=by
 obtain ⟨f,f1,f2⟩:=step_read (op:=op) (by omega) T
 have:=k (fun _ _ _ _=>False) (fun u _=>u=some v) rfl
 rw [f1,opk_retO] at this
 obtain ⟨u,e,e2⟩:=this
 cases e2
 intro cf q hq
 rw [f1,opk_retO]
 exact ⟨_,by rw [f2 hk h' h];exact e,hq⟩
theorem do_writer (I:Inv P G nt ρ₀ h₀ w₀ xs S E ρ T h a w) (hcf:∀ f args h k,cf f args h k->cfP P G f args h k) {i:Nat} {x:DOp} (hxi:xs[i]?=some x) (hr:isReady E i x=true) (hnS:¬ S i) (ok:okEm E x (clOf E x.deps) true=true) (okl:okLate (readyD E 0 xs) i x=true) (hd:∀ d∈x.deps,S d)
  {o:Oper} (ho:ops[i]?=some o) (hx:cDOp P G nt ops o=some x) {ps:List POper} (hs:runOper x.oper cf (runOps (chksOf E (clOf E x.deps)++ps) cf kn) T h) {Q:Exit->Act->World->Prop} {K:Act->World->Prop}
  (HK:∀ ρ' T' h' a' w',Inv P G nt ρ₀ h₀ w₀ xs (fun n=>S n\/n=i) (⟨i,x,clOf E x.deps,true⟩ :: E) ρ' T' h' a' w'->runOps ps cf kn T' h'->K a' w'):wpOp P ops Q i K a w:=by
 have gc:=I.good.cons hxi hr ok okl
 have hlate':∀ j y,xs[j]?=some y->y.late=true->(¬ ∃ e∈E,e.i=j)->S j->∀ p,y.d=some p->p∉x.looks/\x.d≠some p:=fun j y h1 h2 h3 h4 p hp =>
  gc.late _ List.mem_cons_self j y h1 h2 (by
   rintro ⟨e,k1,k2⟩
   rcases List.mem_cons.1 k1 with rfl | k1
   ·(try simp only at k2);subst k2;exact hnS h4
   ·exact h3 ⟨e,k1,k2⟩) p hp
 have hcl:∀ n∈clOf E x.deps,S n:=gc.cl _ List.mem_cons_self S I.closed hd
 obtain ⟨o1,o2,o3⟩:=okEm_spec ok
 obtain ⟨x1,x2,x3,x4⟩:=cDOp_eq hx
 have hni:¬ ∃ e∈E,e.i=i:=(isReady_iff.1 hr).1
 obtain ⟨T',hT',hsame⟩:=I.view (x:=x) hd (fun e' he' p hp hl=>.inr fun S' hS' hd'=>gc.cl _ List.mem_cons_self S' hS' hd' _ (o1 e' he' p hp hl)) (fun j y h1 h2 h3 h4 p hp=>(hlate' j y h1 h2 h3 h4 p hp).1)
 have fin:∀ {v:Option AVal} {V:Value} {ρ':Rho} {h':AHeap} {w':World},(∀ y,v=some y->VRel ρ' y V)->Sim P G ρ' h' w'->Ext ρ h w ρ' h' w'->runOps (chksOf E (clOf E x.deps)++ps) cf kn (putO x.d v T) h'->K (a.put o.dst V) w':=by
  intro v V ρ' h' w' hv sm ex hrun
  obtain ⟨hps,hchk⟩:=chks_run hrun
  refine HK ρ' _ h' _ w' ⟨fun j hj=>?_,fun j y hj hy d hdy=>?_,gc,fun e he hn=>?_,sm,I.ext.trans ex,fun t u ht=>?_,by rw [put_size];exact I.size,by rw [put_tmps];exact I.defers⟩ hps
  ·rcases hj with hj | rfl
   ·rcases I.sub j hj with ⟨e,h1,h2⟩ | k
    ·exact .inl ⟨e,by simp [h1],h2⟩
    ·have k':=k.keep ex x3 (V:=V) fun y hy p hp=>by
      obtain ⟨y',_,_,k1,k2,k3,_⟩:=k
      rw [hy] at k1;cases k1
      exact (hlate' j y hy k2 k3 hj p hp).2
     obtain ⟨y,d,U,k1,k2,k3,k4⟩:=k'
     refine .inr ⟨y,d,U,k1,k2,?_,k4⟩
     rintro ⟨e,h1,h2⟩
     rcases List.mem_cons.1 h1 with rfl | h1
     ·(try simp only at h2);subst h2;exact hnS hj
     ·exact k3 ⟨e,h1,h2⟩
   ·exact .inl ⟨_,List.mem_cons_self,rfl⟩
  ·rcases hj with hj | rfl
   ·exact .inl (I.closed j y hj hy d hdy)
   ·rw [hxi] at hy;cases hy;exact .inl (hd d hdy)
  ·rcases List.mem_cons.1 he with rfl | he
   ·exact absurd (.inr rfl) hn
   ·obtain ⟨⟨k1,k2⟩,k3⟩:=I.delayed e he fun q=>hn (.inl q)
    have s1:∀ p∈e.x.looks,T.get p=(putO x.d v T).get p:=fun p hp=>(putO_ne fun q=>hn (.inl (hcl _ (((o3 p q).2 e he).1 hp).2))).symm
    have s2:∀ p,e.x.d=some p->T.get p=(putO x.d v T).get p:=fun p hp=>(putO_ne fun q=>((o3 p q).2 e he).2 hp).symm
    refine ⟨⟨k1,?_⟩,k3⟩
    by_cases h0:e.x.op.kind=0
    ·refine Delayed.same s1 s2 ?_
     rcases k2 with ⟨q1,u,q2,q3⟩ | q
     ·exact .inl ⟨q1,u,holds_keep h0 q2 h',q3⟩
     ·exact .inr q
    ·have h1:e.x.op.kind=1:=by omega
     have hnc:e.i∉clOf E x.deps:=fun hc=>hn (.inl (hcl _ hc))
     cases hed:e.x.d with
     | none=>exact absurd hed (I.good.read e he h1)
     | some d =>
      rcases hchk e he h1 hnc d hed with ⟨q1,u,q2,q3⟩ | q
      ·exact .inl ⟨q1,u,q2,fun p hp=>by rw [hed] at hp;cases hp;exact q3⟩
      ·rcases k2 with ⟨q1,_⟩ | ⟨q1,q2⟩
       ·rw [wants_same s1,q] at q1;cases q1
       ·exact .inr ⟨q,fun p hp=>by rw [<-s2 p hp];exact q2 p hp⟩
  ·cases hxd:x.d with
   | none =>
    rw [hxd] at x3 ht
    rw [cDst_none x3]
    rcases I.tmps t u ht with ⟨e,he,hn,hd'⟩ | ⟨j,y,g1,g2,g3,g4,g5⟩ | ⟨U,hU,r⟩
    ·exact .inl ⟨e,by simp [he],fun q=>q.elim hn fun q=>hni ⟨e,he,q⟩,hd'⟩
    ·refine .inr (.inl ⟨j,y,g1,g2,?_,.inl g4,g5⟩)
     rintro ⟨e,h1,h2⟩
     rcases List.mem_cons.1 h1 with rfl | h1
     ·(try simp only at h2);subst h2;exact hnS g4
     ·exact g3 ⟨e,h1,h2⟩
    ·exact .inr (.inr ⟨U,hU,r.mono (ex.le I.sim) _ _⟩)
   | some p =>
    rw [hxd] at x3
    obtain ⟨d,hod,hdn,rfl⟩:=cDst_some x3
    rw [hod]
    by_cases hdt:d=t
    ·subst hdt
     rw [hxd] at ht
     simp only [putO] at ht
     rw [PT.get_put_same] at ht
     right;right
     refine ⟨V,?_,hv u ht⟩
     have hs:=I.size
     simp only [Act.put]
     rw [Array.getElem?_setIfInBounds,if_pos rfl,if_pos (Nat.lt_of_lt_of_le hdn hs)]
    ·rw [putO_ne (by rw [hxd];intro q;exact hdt (path_inj (Option.some.inj q)))] at ht
     rcases I.tmps t u ht with ⟨e,he,hn,hd'⟩ | ⟨j,y,g1,g2,g3,g4,g5⟩ | ⟨U,hU,r⟩
     ·exact .inl ⟨e,by simp [he],fun q=>q.elim hn fun q=>hni ⟨e,he,q⟩,hd'⟩
     ·refine .inr (.inl ⟨j,y,g1,g2,?_,.inl g4,g5⟩)
      rintro ⟨e,h1,h2⟩
      rcases List.mem_cons.1 h1 with rfl | h1
      ·(try simp only at h2);subst h2;exact hnS g4
      ·exact g3 ⟨e,h1,h2⟩
     ·right;right
      refine ⟨U,?_,r.mono (ex.le I.sim) _ _⟩
      simp only [Act.put]
      rw [Array.getElem?_setIfInBounds,if_neg hdt];exact hU
 unfold wpOp
 simp only [ho]
 rcases oper_run' hs with ⟨d1,d2⟩ | ⟨d1,d2⟩
 ·rw [wants_same hsame] at d1
  rw [wants_wanted hx hT' d1,if_pos rfl]
  left
  rw [looks_same hsame,x1] at d2
  exact oper_wp o I.sim hT' hcf d2 fun V v ρ' h' w' hv sm ex hq=>fin hv sm ex hq
 ·rw [wants_same hsame] at d1
  rw [wants_wanted hx hT' d1,if_neg (by decide)]
  exact fin (fun y hy=>by cases hy;exact skip_rel _) I.sim (Ext.refl _ _ _) d2
theorem do_ahead (I:Inv P G nt ρ₀ h₀ w₀ xs S E ρ T h a w) {i:Nat} {x:DOp} (hxi:xs[i]?=some x) (hno:¬ ∃ e∈E,e.i=i) (hnS:¬ S i) (hl:x.late=true) (huniq:∀ j y,xs[j]?=some y->y.late=true->(¬ ∃ e∈E,e.i=j)->j=i)
  {o:Oper} (ho:ops[i]?=some o) (hx:cDOp P G nt ops o=some x) {Q:Exit->Act->World->Prop} {K:Act->World->Prop}
  (HK:∀ a' w',Inv P G nt ρ₀ h₀ w₀ xs (fun n=>S n\/n=i) E ρ T h a' w'->K a' w'):wpOp P ops Q i K a w:=by
 obtain ⟨l1,l2,l3,p,l4⟩:=late_spec hl
 obtain ⟨x1,x2,x3,x4⟩:=cDOp_eq hx
 rw [l4] at x3
 obtain ⟨d,hod,hdn,rfl⟩:=cDst_some x3
 obtain ⟨V,w',obj,r1,r2,L,b,v,r3,r4,r5,r6,r7⟩:=late_run (P:=P) (G:=G) (nt:=nt) (ops:=ops) hx hl a w
 have hheap:w'.heap=w.heap.push obj:=by rw [r2]
 have hlt:∀ B,B < w.heap.size->w'.heap[B]?=w.heap[B]?:=fun B hB=>by
  rw [hheap,Array.getElem?_push_lt hB,Array.getElem?_eq_getElem hB]
 have hsz:w'.heap.size=w.heap.size+1:=by rw [hheap];simp
 have sm:Sim P G ρ h w':=⟨I.sim.glob,I.sim.fresh,fun id c hc=>let ⟨M,k,r⟩:=I.sim.blk id c hc;⟨M,k,r.keep (hlt _ r.lt) (Rho.le_refl _)⟩,I.sim.own⟩
 have ex:Ext ρ h w ρ h w':=⟨by rw [r2],by rw [r2],by rw [r2],by omega,Nat.le_refl _,fun _ _=>rfl,fun B hB _=>hlt B hB,fun _ _ k=>k,fun _ _ k=>k⟩
 have hheld:¬ Held ρ h L.blk:=by
  rintro ⟨id,c,M,h1,h2,h3⟩
  obtain ⟨M',k,r⟩:=I.sim.blk id c h1
  rw [h2] at k;cases k
  have:=r.lt;omega
 have hslot:∀ e∈E,e.x.d≠some (path d):=fun e he=>(I.good.late e he i x hxi hl hno _ l4).2
 have hput:∀ t,d≠t->(a.put o.dst V).tmps[t]?=a.tmps[t]?:=fun t ht=>by
  rw [hod];simp only [Act.put];rw [Array.getElem?_setIfInBounds,if_neg ht]
 unfold wpOp
 simp only [ho]
 rw [wants_wanted hx (T:=.leaf) (ρ:=ρ) (fun t v ht=>by cases ht) (b:=true) (by simp [DOp.wants,l1]),if_pos rfl]
 left
 unfold Oper.wp
 rw [r1]
 refine HK _ w' ⟨fun j hj=>?_,fun j y hj hy q hq=>?_,I.good,fun e he hn=>I.delayed e he fun q=>hn (.inl q),sm,I.ext.trans ex,fun t u ht=>?_,by rw [put_size];exact I.size,by rw [put_tmps];exact I.defers⟩
 ·rcases hj with hj | rfl
  ·rcases I.sub j hj with k | k
   ·exact .inl k
   ·obtain ⟨y,d,V,k1,k2,k3,k4⟩:=k
    exact absurd (huniq j y k1 k2 k3 ▸ hj) hnS
  ·refine .inr ⟨x,d,V,hxi,hl,hno,l4,?_,L,b,v,?_,by omega,hheld,r4,r5,r6,r7⟩
   ·rw [hod];simp only [Act.put];rw [Array.getElem?_setIfInBounds,if_pos rfl,if_pos (Nat.lt_of_lt_of_le hdn I.size)]
   ·rw [r3];exact I.ext.size
 ·rcases hj with hj | rfl
  ·exact .inl (I.closed j y hj hy q hq)
  ·rw [hxi] at hy;cases hy;rw [l2] at hq;cases hq
 ·by_cases hdt:d=t
  ·subst hdt;exact .inr (.inl ⟨i,x,hxi,hl,hno,.inr rfl,l4⟩)
  ·rcases I.tmps t u ht with ⟨e,he,hn,hd'⟩ | ⟨j,y,g1,g2,g3,g4,g5⟩ | ⟨U,hU,r⟩
   ·refine .inl ⟨e,he,fun q=>q.elim hn fun q=>hno ⟨e,he,q⟩,hd'⟩
   ·exact .inr (.inl ⟨j,y,g1,g2,g3,.inl g4,g5⟩)
   ·exact .inr (.inr ⟨U,by rw [hput t hdt];exact hU,r⟩)
theorem Sim.adopt (s:Sim P G ρ h w) {b:ABlock} {L:Loc} (hL:¬ Held ρ h L.blk) (hb:∀ ρ',BRel P ρ' L w b):Sim P G (ρ.put h.next L) (h.new b) w:=by
 have hle:ρ.le (ρ.put h.next L):=Rho.le_put (s.fresh _ (Nat.le_refl _)).2
 have old:∀ i c,(h.new b).get i=some c->i≠h.next->h.get i=some c:=by
  intro i c hc hi
  rw [AHeap.get_new,if_neg (fun e=>hi e.symm)] at hc
  exact hc
 refine ⟨fun g hg=>?_,fun id hid=>?_,fun id c hc=>?_,fun id id' c c' K K' h1 h2 k1 k2 hwr hne=>?_⟩
 ·obtain ⟨g1,n,g2⟩:=s.glob g hg
  exact ⟨by rw [AHeap.next_new];omega,n,hle _ _ g2⟩
 ·rw [AHeap.next_new] at hid
  have:=s.fresh id (by omega)
  rw [AHeap.get_new,if_neg (by omega),Rho.put_ne (by omega)]
  exact this
 ·by_cases hi:id=h.next
  ·subst hi
   rw [AHeap.get_new,if_pos rfl] at hc;cases hc
   exact ⟨L,Rho.put_same _ _ _,hb _⟩
  ·obtain ⟨K,k,r⟩:=s.blk id c (old id c hc hi)
   exact ⟨K,by rw [Rho.put_ne hi];exact k,r.keep rfl hle⟩
 ·by_cases hi:id=h.next
  ·subst hi
   rw [Rho.put_same] at k1;cases k1
   rw [Rho.put_ne (Ne.symm hne)] at k2
   exact fun e=>hL ⟨id',c',K',old _ _ h2 (Ne.symm hne),k2,e.symm⟩
  ·rw [Rho.put_ne hi] at k1
   have g1:=old _ _ h1 hi
   by_cases hi':id'=h.next
   ·subst hi'
    rw [Rho.put_same] at k2;cases k2
    exact fun e=>hL ⟨id,c,K,g1,k1,e⟩
   ·rw [Rho.put_ne hi'] at k2
    exact s.own id id' c c' K K' g1 (old _ _ h2 hi') k1 k2 hwr hne
theorem adopt (I:Inv P G nt ρ₀ h₀ w₀ xs S E ρ T h a w) {i:Nat} {x:DOp} (hxi:xs[i]?=some x) (hr:isReady E i x=true) (hS:S i) (huniq:∀ j y,xs[j]?=some y->y.late=true->(¬ ∃ e∈E,e.i=j)->j=i)
  (ok:okEm E x (clOf E x.deps) true=true) (okl:okLate (readyD E 0 xs) i x=true) {ps:List POper} (hs:runOper x.oper cf (runOps (chksOf E (clOf E x.deps)++ps) cf kn) T h) :
  ∃ ρ' T' h',Inv P G nt ρ₀ h₀ w₀ xs S (⟨i,x,clOf E x.deps,true⟩ :: E) ρ' T' h' a w/\runOps ps cf kn T' h':=by
 have gc:=I.good.cons hxi hr ok okl
 have hni:¬ ∃ e∈E,e.i=i:=(isReady_iff.1 hr).1
 obtain ⟨o1,o2,o3⟩:=okEm_spec ok
 obtain ⟨y,d,V,k1,hl,k3,hxd,k5,L,b,v,m1,m2,m3,m4,m5,m6,m7⟩:=(I.sub i hS).resolve_left hni
 rw [hxi] at k1;cases k1
 obtain ⟨l1,l2,l3,_⟩:=late_spec hl
 have hw:x.wants T=some true:=by simp [DOp.wants,l1]
 have hcl:∀ n∈clOf E x.deps,S n:=gc.cl _ List.mem_cons_self S I.closed (by rw [l2];intro d hd;cases hd)
 have d2:step x.op cf T h fun u h'=>runOps (chksOf E (clOf E x.deps)++ps) cf kn (putO x.d u T) h':=by
  rcases oper_run' hs with ⟨_,d2⟩ | ⟨d1,_⟩
  ·exact d2
  ·rw [hw] at d1;cases d1
 have d3:=m7 cf T h _ d2
 obtain ⟨hps,hchk⟩:=chks_run d3
 have hle:ρ.le (ρ.put h.next L):=Rho.le_put (I.sim.fresh _ (Nat.le_refl _)).2
 have x':=I.ext
 refine ⟨ρ.put h.next L,_,_,⟨fun j hj=>?_,I.closed,gc,fun e he hn=>?_,I.sim.adopt m3 m5,?_,fun t u ht=>?_,I.size,I.defers⟩,hps⟩
 ·rcases I.sub j hj with ⟨e,h1,h2⟩ | ⟨y,d,V,q1,q2,q3,q4⟩
  ·exact .inl ⟨e,by simp [h1],h2⟩
  ·have:=huniq j y q1 q2 q3
   subst this
   exact .inl ⟨_,List.mem_cons_self,rfl⟩
 ·rcases List.mem_cons.1 he with rfl | he
  ·exact absurd hS hn
  ·obtain ⟨⟨k1,k2⟩,k3⟩:=I.delayed e he hn
   have s1:∀ p∈e.x.looks,T.get p=(putO x.d (some (v h.next)) T).get p:=fun p hp=>(putO_ne fun q=>hn (hcl _ (((o3 p q).2 e he).1 hp).2)).symm
   have s2:∀ p,e.x.d=some p->T.get p=(putO x.d (some (v h.next)) T).get p:=fun p hp=>(putO_ne fun q=>((o3 p q).2 e he).2 hp).symm
   refine ⟨⟨k1,?_⟩,k3⟩
   by_cases h0:e.x.op.kind=0
   ·refine Delayed.same s1 s2 ?_
    rcases k2 with ⟨q1,u,q2,q3⟩ | q
    ·exact .inl ⟨q1,u,holds_keep h0 q2 _,q3⟩
    ·exact .inr q
   ·have h1:e.x.op.kind=1:=by omega
    have hnc:e.i∉clOf E x.deps:=fun hc=>hn (hcl _ hc)
    cases hed:e.x.d with
    | none=>exact absurd hed (I.good.read e he h1)
    | some d =>
     rcases hchk e he h1 hnc d hed with ⟨q1,u,q2,q3⟩ | q
     ·exact .inl ⟨q1,u,q2,fun p hp=>by rw [hed] at hp;cases hp;exact q3⟩
     ·rcases k2 with ⟨q1,_⟩ | ⟨q1,q2⟩
      ·rw [wants_same s1,q] at q1;cases q1
      ·exact .inr ⟨q,fun p hp=>by rw [<-s2 p hp];exact q2 p hp⟩
 ·refine ⟨x'.os,x'.tape,x'.output,x'.size,by rw [AHeap.next_new];have:=x'.next;omega,fun id hi=>?_,x'.frame,fun B hB hown=>?_,fun B hB hheld=>?_⟩
  ·have:=x'.next
   rw [Rho.put_ne (by omega)];exact x'.old id hi
  ·obtain ⟨id,c,K,h1,h2,h3,h4⟩:=hown
   rw [AHeap.get_new] at h1
   by_cases hi:id=h.next
   ·subst hi;rw [Rho.put_same] at h3;cases h3;omega
   ·rw [Rho.put_ne hi] at h3
    rw [if_neg (fun e=>hi e.symm)] at h1
    exact x'.own B hB ⟨id,c,K,h1,h2,h3,h4⟩
  ·obtain ⟨id,c,K,h1,h3,h4⟩:=hheld
   rw [AHeap.get_new] at h1
   by_cases hi:id=h.next
   ·subst hi;rw [Rho.put_same] at h3;cases h3;omega
   ·rw [Rho.put_ne hi] at h3
    rw [if_neg (fun e=>hi e.symm)] at h1
    exact x'.held B hB ⟨id,c,K,h1,h3,h4⟩
 ·by_cases hdt:d=t
  ·subst hdt
   rw [hxd] at ht
   simp only [putO] at ht
   rw [PT.get_put_same] at ht
   cases ht
   exact .inr (.inr ⟨V,k5,m6 _ _ (Rho.put_same _ _ _)⟩)
  ·rw [putO_ne (by rw [hxd];intro q;exact hdt (path_inj (Option.some.inj q)))] at ht
   rcases I.tmps t u ht with ⟨e,he,hn,hd'⟩ | ⟨j,y,g1,g2,g3,g4,g5⟩ | ⟨U,hU,r⟩
   ·exact .inl ⟨e,by simp [he],hn,hd'⟩
   ·have:=huniq j y g1 g2 g3
    subst this
    rw [hxi] at g1;cases g1
    rw [hxd] at g5
    exact absurd (path_inj (Option.some.inj g5)) hdt
   ·exact .inr (.inr ⟨U,hU,r.mono hle _ _⟩)
theorem downD_mem {w:Nat} (all:List DOp):∀ (xs:List DOp) (k:Nat) (acc:List Nat),(∀ j,all[k+j]?=xs[j]?)->(∀ n∈acc,∀ S,Closed all S->S n->S w)->∀ n∈downD w xs k acc,∀ S,Closed all S->S n->S w
 | [],_,acc,_,h=>h
 | x :: xs,k,acc,he,h=>by
  have e:downD w (x :: xs) k acc=downD w xs (k+1) (bi (anyN (fun d=>bi (Nat.beq d w) true (memN acc d)) x.deps) (k :: acc) acc):=rfl
  rw [e]
  refine downD_mem all xs (k+1) _ (fun j=>by have:=he (j+1);rw [List.getElem?_cons_succ] at this;rw [<-this];congr 1;omega) ?_
  rw [bi_eq]
  split
  ·rename_i ha
   obtain ⟨d,hd,hd2⟩:=anyN_iff.1 ha
   intro n hn S hS hk
   rcases List.mem_cons.1 hn with rfl | hn
   ·have hx:all[n]?=some x:=by have:=he 0;simpa using this
    have:=hS n x hk hx d hd
    rw [bi_eq,nbeq] at hd2
    by_cases e:d=w
    ·subst e;exact this
    ·simp [e] at hd2
     exact h d (memN_iff.1 hd2) S hS this
   ·exact h n hn S hS hk
  ·exact h
theorem okDown_iff {E:List Em} {D:List Nat} {w a n:Nat} (h:okDown E D w a n=true):∀ k,k < n->k=w\/k=a\/(∃ e∈E,e.i=k)\/k∈D:=by
 induction n with
 | zero=>intro k hk;omega
 | succ n ih =>
  have h:bi (bi (Nat.beq n w) true (bi (Nat.beq n a) true (bi (hasEm E n) true (memN D n)))) (okDown E D w a n) false=true:=h
  rw [bi_eq] at h
  split at h
  ·rename_i h1
   intro k hk
   by_cases hkn:k=n
   ·subst hkn
    simp only [bi_eq,nbeq] at h1
    by_cases e1:k=w
    ·exact .inl e1
    ·by_cases e2:k=a
     ·exact .inr (.inl e2)
     ·simp only [e1,e2,decide_false,Bool.false_eq_true,if_false] at h1
      split at h1
      ·rename_i e3;exact .inr (.inr (.inl (hasEm_iff.1 e3)))
      ·exact .inr (.inr (.inr (memN_iff.1 h1)))
   ·exact ih h k (by omega)
  ·cases h
theorem pickW_some {L:List (Nat×DOp)} {p:Nat×DOp} {a:Option Nat} (h:pickW L=some (p,a)):(L=[p]/\a=none)\/∃ q,a=some q.1/\p.2.late=false/\q.2.late=true/\∀ r,r∈L↔r=p\/r=q:=by
 unfold pickW at h
 split at h
 ·cases h;exact .inl ⟨rfl,rfl⟩
 ·rename_i x y
  rw [bi_eq] at h
  split at h
  ·rename_i hc
   cases h
   simp at hc
   exact .inr ⟨y,rfl,hc.2,hc.1,fun r=>by simp⟩
  ·rw [bi_eq] at h
   split at h
   ·rename_i hc
    cases h
    simp at hc
    exact .inr ⟨x,rfl,hc.2,hc.1,fun r=>by simp [or_comm]⟩
   ·cases h
 ·cases h
theorem pick_cases (I:Inv P G nt ρ₀ h₀ w₀ xs S E ρ T h a w) {j:Nat} {y:DOp} {b:Option Nat} (hne:readyD E 0 xs≠[]) (hp:pickW (readyD E 0 xs)=some ((j,y),b)) (hd:okPick E xs j b=true) :
  (xs[j]?=some y/\isReady E j y=true) /\
  (
   (b=none/\(∀ i x,xs[i]?=some x->x.late=true->(¬ ∃ e∈E,e.i=i)->i=j)/\∀ i x,xs[i]?=some x->isReady E i x=true->i=j) \/
   (∃ l z,b=some l/\xs[l]?=some z/\z.late=true/\y.late=false/\¬ S j/\(∀ i x,xs[i]?=some x->x.late=true->(¬ ∃ e∈E,e.i=i)->i=l) /\
    ∀ i x,xs[i]?=some x->(¬ ∃ e∈E,e.i=i)->¬ S i->(∀ d∈x.deps,S d)->i=j\/i=l)):=by
 have mem:∀ {i x},(i,x)∈readyD E 0 xs↔xs[i]?=some x/\isReady E i x=true:=by intro i x;rw [readyD_mem];simp
 rcases pickW_some hp with ⟨hL,rfl⟩ | ⟨⟨l,z⟩,rfl,hyl,hzl,hL⟩
 ·refine ⟨mem.1 (by rw [hL];simp),.inl ⟨rfl,fun i x hx hl hno=>?_,fun i x hx hr=>?_⟩⟩
  ·have:=late_ready hx hl hno
   rw [hL] at this
   simp at this;exact this.1
  ·have:=mem.2 ⟨hx,hr⟩
   rw [hL] at this
   simp at this;exact this.1
 ·have hj:=mem.1 ((hL (j,y)).2 (.inl rfl))
  have hl:=mem.1 ((hL (l,z)).2 (.inr rfl))
  have hun:∀ i x,xs[i]?=some x->x.late=true->(¬ ∃ e∈E,e.i=i)->i=l:=by
   intro i x hx hxl hno
   rcases (hL (i,x)).1 (late_ready hx hxl hno) with e | e
   ·cases e;rw [hxl] at hyl;cases hyl
   ·cases e;rfl
  have hnj:¬ S j:=by
   intro hs
   rcases I.sub j hs with k | ⟨x,d,V,k1,k2,k3,_⟩
   ·exact (isReady_iff.1 hj.2).1 k
   ·rw [hj.1] at k1;cases k1;rw [k2] at hyl;cases hyl
  refine ⟨hj,.inr ⟨l,z,rfl,hl.1,hzl,hyl,hnj,hun,fun i x hx hno hns hdeps=>?_⟩⟩
  have hi:i < xs.length:=(List.getElem?_eq_some_iff.1 hx).1
  by_cases hij:i=j
  ·exact .inl hij
  rcases okDown_iff hd i hi with e | e | e | e
  ·exact .inl e
  ·exact .inr e
  ·exact absurd e hno
  ·exfalso
   refine hnj (downD_mem xs xs 0 [] (fun j=>by simp) (fun n hn=>by cases hn) i e (fun n=>S n\/n=i) ?_ (.inr rfl) |>.resolve_right ?_)
   ·intro n x' hn hx' d hd'
    rcases hn with hn | rfl
    ·exact .inl (I.closed n x' hn hx' d hd')
    ·rw [hx] at hx';cases hx';exact .inl (hdeps d hd')
   ·exact fun e'=>hij e'.symm
theorem step_any (hcf:∀ f args h k,cf f args h k->cfP P G f args h k) {i:Nat} {x:DOp} (hxi:xs[i]?=some x) (hd:∀ d∈x.deps,S d) (hn:¬ S i) {o:Oper} (ho:ops[i]?=some o) (hx:cDOp P G nt ops o=some x)
  {Q:Exit->Act->World->Prop} {K:Act->World->Prop} (HK:∀ n ps E' ρ' T' h' a' w',Inv P G nt ρ₀ h₀ w₀ xs (fun n=>S n\/n=i) E' ρ' T' h' a' w'->emitD xs n E'=some ps->runOps ps cf kn T' h'->K a' w') :
  ∀ (n:Nat) {E:List Em} {ρ:Rho} {T:PT AVal} {h:AHeap} {ps:List POper},Inv P G nt ρ₀ h₀ w₀ xs S E ρ T h a w->emitD xs n E=some ps->runOps ps cf kn T h->wpOp P ops Q i K a w
 | 0,E,ρ,T,h,ps,_,he,_=>by cases he
 | n+1,E,ρ,T,h,ps,I,he,hr=>by
  by_cases hE:∃ e∈E,e.i=i
  ·obtain ⟨e,h1,rfl⟩:=hE
   have:=I.good.at_ e h1
   rw [hxi] at this;cases this
   exact do_delayed I h1 hn hd ho hx fun ρ' a' w' I'=>HK (n+1) ps E ρ' T h a' w' I' he hr
  ·have he0:=he
   rw [emitD] at he
   split at he
   ·rename_i j y hf
    obtain ⟨f1,f2⟩:=firstRead_some hf
    obtain ⟨_,hy,hry⟩:=readyD_mem.1 f1
    rw [Nat.sub_zero] at hy
    rw [bi_some] at he
    obtain ⟨ok,he⟩:=he
    rw [Bool.and_eq_true] at ok
    obtain ⟨ok,okl⟩:=ok
    obtain ⟨ps',he',e⟩:=ob_eq.1 he
    cases e
    obtain ⟨o1,o2,o3⟩:=okEm_spec ok
    have hr:runOper y.oper cf (runOps ps' cf kn) T h:=hr
    have hsame:∀ v,∀ p∈y.looks,T.get p=(putO y.d v T).get p:=fun v p hp=>(putO_ne fun q=>(o3 p q).1 hp).symm
    have hT:∀ v,match y.d with | none=>putO y.d v T=T | some d=>∃ u,putO y.d v T=T.put u d:=by
     intro v
     cases hyd:y.d with
     | none=>rfl
     | some d=>exact ⟨v,rfl⟩
    rcases oper_run' hr with ⟨d1,d2⟩ | ⟨d1,d2⟩
    ·obtain ⟨f,g1,_⟩:=step_read (op:=y.op) f2 T
     obtain ⟨v,hq,_,hh⟩:=holds_of g1 d2
     refine step_any hcf hxi hd hn ho hx HK n (I.tell hy hry ok okl f2 (hT (some v)) ?_) he' hq
     exact .inl ⟨by rw [<-wants_same (hsame (some v))];exact d1,v,hh.same (hsame (some v)),fun p hp=>by rw [hp];exact PT.get_put_same _ _ _⟩
    ·refine step_any hcf hxi hd hn ho hx HK n (I.tell hy hry ok okl f2 (hT (some skipV)) ?_) he' d2
     exact .inr ⟨by rw [<-wants_same (hsame (some skipV))];exact d1,fun p hp=>by rw [hp];exact PT.get_put_same _ _ _⟩
   ·split at he
    ·rename_i hl
     exfalso
     have hall:∀ d,S d->∃ e∈E,e.i=d:=fun d hds=>(I.sub d hds).resolve_right (by
      rintro ⟨y,_,_,k1,k2,k3,_⟩
      have:=late_ready k1 k2 k3
      rw [hl] at this;cases this)
     have:(i,x)∈readyD E 0 xs:=readyD_mem.2 ⟨Nat.zero_le _,by simpa using hxi,isReady_iff.2 ⟨hE,fun d hdd=>hall d (hd d hdd)⟩⟩
     rw [hl] at this;cases this
    ·rename_i hl
     split at he
     ·rename_i j y b hp
      rw [bi_some] at he
      obtain ⟨ok,he⟩:=he
      rw [Bool.and_eq_true,Bool.and_eq_true] at ok
      obtain ⟨ok,okl,okp⟩:=ok
      obtain ⟨ps',he',e⟩:=ob_eq.1 he
      cases e
      have hr:runOper y.oper cf (runOps (chksOf E (clOf E y.deps)++ps') cf kn) T h:=hr
      obtain ⟨⟨hyj,hry⟩,hc⟩:=pick_cases I hl hp okp
      have write:i=j->wpOp P ops Q i K a w:=by
       rintro rfl
       rw [hxi] at hyj;cases hyj
       exact do_writer I hcf hxi hry hn ok okl hd ho hx hr fun ρ' T' h' a' w' I' hr'=>HK n ps' _ ρ' T' h' a' w' I' he' hr'
      rcases hc with ⟨rfl,c1,c2⟩ | ⟨l,z,rfl,c1,c2,c3,c4,c5,c6⟩
      ·by_cases hj:S j
       ·obtain ⟨ρ',T',h',I',hr'⟩:=adopt I hyj hry hj c1 ok okl hr
        exact step_any hcf hxi hd hn ho hx HK n I' he' hr'
       ·refine write (c2 i x hxi (isReady_iff.2 ⟨hE,fun d hdd=>(I.sub d (hd d hdd)).resolve_right ?_⟩))
        rintro ⟨y',_,_,k1,k2,k3,_⟩
        have:=c1 d y' k1 k2 k3
        subst this
        exact hj (hd _ hdd)
      ·rcases c6 i x hxi hE hn hd with e | e
       ·exact write e
       ·subst e
        rw [hxi] at c1;cases c1
        refine do_ahead I hxi hE hn c2 c5 ho hx fun a' w' I'=>HK (n+1) (y.oper :: (chksOf E (clOf E y.deps)++ps')) E ρ T h a' w' I' he0 hr
     ·cases he
end
end Go.Ab
namespace Go.Ab
variable {P:Program} {G:List Nat} {nt:Nat}
theorem countP_lt {p p':Nat->Bool} (h:∀ k,p' k=true->p k=true) {j:Nat} (h1:p j=true) (h2:p' j=false):∀ {l:List Nat},j∈l->l.countP p' < l.countP p
 | [],hj=>by cases hj
 | x :: l,hj=>by
  have hle:l.countP p'<=l.countP p:=List.countP_mono_left fun k _ hk=>h k hk
  simp only [List.countP_cons]
  rcases List.mem_cons.1 hj with rfl | hj
  ·rw [h1,h2];simp;omega
  ·have:=countP_lt h h1 h2 hj
   have:(if p' x=true then 1 else 0)<=(if p x=true then 1 else 0):=by
    cases hx:p' x with
    | true=>rw [h x hx];simp
    | false=>simp
   omega
section
variable {ops:Array Oper} {xs:List DOp} {ρ₀:Rho} {h₀:AHeap} {w₀:World} {cf:CallF} {kn:Kn}
abbrev Lis (listed:Array Bool) (n:Nat):Prop:=listed.getD n false=true
theorem lis_set {listed:Array Bool} {i n:Nat} (hi:i < listed.size):Lis (listed.setIfInBounds i true) n↔Lis listed n\/n=i:=by
 unfold Lis
 rw [Array.getD_eq_getD_getElem?,Array.getD_eq_getD_getElem?,Array.getElem?_setIfInBounds]
 by_cases h:i=n
 ·subst h;simp [hi]
 ·simp [h,Ne.symm h]
theorem not_lis {listed:Array Bool} {j:Nat} (hj:j < listed.size):listed.getD j true=false↔¬ Lis listed j:=by
 unfold Lis
 rw [Array.getD_eq_getD_getElem?,Array.getD_eq_getD_getElem?,Array.getElem?_eq_getElem hj]
 simp
theorem Inv.ext_set {S S':Nat->Prop} (hS:∀ n,S n↔S' n) {E:List Em} {ρ:Rho} {T:PT AVal} {h:AHeap} {a:Act} {w:World} (I:Inv P G nt ρ₀ h₀ w₀ xs S E ρ T h a w):Inv P G nt ρ₀ h₀ w₀ xs S' E ρ T h a w:=by
 have:S=S':=funext fun n=>propext (hS n)
 rw [<-this];exact I
theorem any_sound (hxs:cDOps P G nt ops ops.toList=some xs) (hcf:∀ f args h k,cf f args h k->cfP P G f args h k) {Q:Exit->Act->World->Prop} (hk:∀ ρ T h a w,Fits P G nt ρ₀ h₀ w₀ ρ T h a w->kn T h->Q .normal a w) :
  ∀ (fuel:Nat) (listed:Array Bool),listed.size=ops.size->(List.range ops.size).countP (fun j=>!listed.getD j true)<=fuel ->
   ∀ {n:Nat} {E:List Em} {ρ:Rho} {T:PT AVal} {h:AHeap} {ps:List POper} {a:Act} {w:World},Inv P G nt ρ₀ h₀ w₀ xs (Lis listed) E ρ T h a w->emitD xs n E=some ps->runOps ps cf kn T h ->
    wpAny P .any ops Q fuel listed a w:=by
 obtain ⟨hlen,hget⟩:=cDOps_get hxs
 have hlen:xs.length=ops.size:=by rw [hlen];simp
 have hget':∀ j o,ops[j]?=some o->∃ x,xs[j]?=some x/\cDOp P G nt ops o=some x:=fun j o ho=>hget j o (by rw [Array.getElem?_toList];exact ho)
 have hready:∀ (listed:Array Bool),listed.size=ops.size->∀ j x,xs[j]?=some x->((j∈Region.ready .any ops listed)↔¬ Lis listed j/\∀ d∈x.deps,Lis listed d):=by
  intro listed hsz j x hx
  have hj:j < ops.size:=by rw [<-hlen];exact (List.getElem?_eq_some_iff.1 hx).1
  obtain ⟨x',hx',hc⟩:=hget' j ops[j] (Array.getElem?_eq_getElem hj)
  rw [hx] at hx';cases hx'
  obtain ⟨_,hdeps,_⟩:=cDOp_eq hc
  rw [mem_ready,not_lis (by omega)]
  constructor
  ·rintro ⟨h1,o,ho,h2⟩
   rw [Array.getElem?_eq_getElem hj] at ho;cases ho
   refine ⟨h1,fun d hd=>?_⟩
   rw [hdeps] at hd
   obtain ⟨e,he,rfl⟩:=List.mem_map.1 hd
   obtain ⟨he,hb⟩:=List.mem_filter.1 he
   exact h2 e (Array.mem_toList_iff.1 he) hb
  ·rintro ⟨h1,h2⟩
   refine ⟨h1,ops[j],Array.getElem?_eq_getElem hj,fun e he hb=>h2 e.on ?_⟩
   rw [hdeps]
   exact List.mem_map.2 ⟨e,List.mem_filter.2 ⟨Array.mem_toList_iff.2 he,hb⟩,rfl⟩
 have done:∀ (listed:Array Bool),listed.size=ops.size->Region.ready .any ops listed=[]->∀ (n:Nat) {E:List Em} {ρ:Rho} {T:PT AVal} {h:AHeap} {ps:List POper} {a:Act} {w:World},
   Inv P G nt ρ₀ h₀ w₀ xs (Lis listed) E ρ T h a w->emitD xs n E=some ps->runOps ps cf kn T h->Q .normal a w:=by
  intro listed hsz hre n
  induction n with
  | zero=>intro E ρ T h ps a w I he hr;cases he
  | succ n ih =>
  intro E ρ T h ps a w I he hr
  have hall:∀ e∈E,Lis listed e.i:=by
   intro e0 he0
   refine Classical.byContradiction fun hn=>?_
   obtain ⟨e,h1,h2,h3⟩:=I.good.ord.first ⟨e0,he0,hn⟩
   have:=(hready listed hsz e.i e.x (I.good.at_ e h1)).2 ⟨h2,h3⟩
   rw [hre] at this;cases this
  have hno:∀ j x,xs[j]?=some x->isReady E j x=true->Lis listed j:=by
   intro j x hx hrr
   obtain ⟨r1,r2⟩:=isReady_iff.1 hrr
   refine Classical.byContradiction fun hl=>?_
   have:j∈Region.ready .any ops listed:=(hready listed hsz j x hx).2 ⟨hl,fun d hd=>by obtain ⟨e,g1,rfl⟩:=r2 d hd;exact hall e g1⟩
   rw [hre] at this;cases this
  have hlate:∀ j x,xs[j]?=some x->isReady E j x=true->x.late=true:=by
   intro j x hx hrr
   rcases I.sub j (hno j x hx hrr) with k | ⟨y,_,_,k1,k2,_⟩
   ·exact absurd k (isReady_iff.1 hrr).1
   ·rw [hx] at k1;cases k1;exact k2
  rw [emitD] at he
  split at he
  ·rename_i j y hf
   obtain ⟨f1,f2⟩:=firstRead_some hf
   obtain ⟨_,hy,hry⟩:=readyD_mem.1 f1
   have:=late_kind (late_spec (hlate j y (by simpa using hy) hry)).2.2.1
   simp only at f2
   omega
  ·split at he
   ·rename_i hl
    rw [bi_some] at he
    obtain ⟨_,he⟩:=he
    cases he
    refine hk ρ T h a w ⟨I.sim,I.ext,fun t v ht=>?_,I.size,I.defers⟩ hr
    rcases I.tmps t v ht with ⟨e,h1,h2,_⟩ | ⟨i,x,h1,h2,h3,_⟩ | h
    ·exact absurd (hall e h1) h2
    ·have:=late_ready h1 h2 h3
     rw [hl] at this;cases this
    ·exact h
   ·rename_i hl
    split at he
    ·rename_i j y b hp
     rw [bi_some] at he
     obtain ⟨ok,he⟩:=he
     rw [Bool.and_eq_true,Bool.and_eq_true] at ok
     obtain ⟨ok,okl,okp⟩:=ok
     obtain ⟨ps',he',e⟩:=ob_eq.1 he
     cases e
     have hr:runOper y.oper cf (runOps (chksOf E (clOf E y.deps)++ps') cf kn) T h:=hr
     obtain ⟨⟨hyj,hry⟩,hc⟩:=pick_cases I hl hp okp
     rcases hc with ⟨rfl,c1,c2⟩ | ⟨l,z,rfl,c1,c2,c3,c4,c5,c6⟩
     ·obtain ⟨ρ',T',h',I',hr'⟩:=adopt I hyj hry (hno j y hyj hry) c1 ok okl hr
      exact ih I' he' hr'
     ·exact absurd (hno j y hyj hry) c4
    ·cases he
 intro fuel
 induction fuel with
 | zero =>
  intro listed hsz hc n E ρ T h ps a w I he hr
  have hre:Region.ready .any ops listed=[]:=by
   refine List.eq_nil_iff_forall_not_mem.2 fun j hj=>?_
   obtain ⟨h1,o,ho,_⟩:=mem_ready.1 hj
   have hjs:j < ops.size:=(Array.getElem?_eq_some_iff.1 ho).1
   have:=List.countP_eq_zero.1 (Nat.le_zero.1 hc) j (List.mem_range.2 hjs)
   rw [h1] at this
   exact this rfl
  exact ⟨hre,done listed hsz hre n I he hr⟩
 | succ fuel ih =>
  intro listed hsz hc n E ρ T h ps a w I he hr
  refine ⟨fun hre=>done listed hsz hre n I he hr,fun i hi=>?_⟩
  obtain ⟨h1,o,ho,_⟩:=mem_ready.1 hi
  have his:i < ops.size:=(Array.getElem?_eq_some_iff.1 ho).1
  obtain ⟨x,hx,hco⟩:=hget' i o ho
  obtain ⟨r1,r2⟩:=(hready listed hsz i x hx).1 hi
  refine step_any hcf hx r2 r1 ho hco (fun n' ps' E' ρ' T' h' a' w' I' he' hr'=>?_) n I he hr
  refine ih (listed.setIfInBounds i true) (by simpa using hsz) ?_ (I'.ext_set fun k=>(lis_set (by omega)).symm) he' hr'
  have:(List.range ops.size).countP (fun j=>!(listed.setIfInBounds i true).getD j true) < (List.range ops.size).countP (fun j=>!listed.getD j true):=by
   refine countP_lt (j:=i) (fun k hk=>?_) (by rw [h1];rfl) ?_ (List.mem_range.2 his)
   ·by_cases hki:i=k
    ·subst hki;simp [Array.getD_eq_getD_getElem?,hsz,his] at hk
    ·simpa [Array.getD_eq_getD_getElem?,Array.getElem?_setIfInBounds,hki] using hk
   ·simp [Array.getD_eq_getD_getElem?,hsz,his]
  omega
theorem region_ok (P:Program) (G:List Nat) (nt:Nat):RegionOk P G nt:=by
 intro id ops d ps hc cf hcf kn Q ρ₀ h₀ w₀ hk ρ T h a w f hr
 cases d with
 | false =>
  simp only [comp] at hc
  split at hc
  ·rename_i ps' hps
   cases hc
   refine wp_region ?_
   have:=opers_wp (ops:=ops) hcf hk ops.toList 0 rfl hps f hr
   rw [List.range_eq_range']
   simpa using this
  ·cases hc
 | true =>
  simp only [comp] at hc
  cases hm:P.follows .mixedOrders with
  | false=>rw [hm] at hc;simp at hc
  | true =>
   rw [hm] at hc
   simp only [cond_true] at hc
   split at hc
   ·rename_i xs hxs
    split at hc
    ·rename_i ps' hps
     cases hc
     refine wp_region_any hm ?_
     have f':Fits P G nt ρ₀ h₀ w₀ ρ T h a { w with drawn:=w.drawn+1 }:=⟨f.sim.same rfl,f.ext.trans (Ext.same rfl rfl rfl rfl),f.tmps,f.size,f.defers⟩
     have hnl:∀ n,¬ Lis (Array.replicate ops.size false) n:=fun n hn=>by
      unfold Lis at hn
      rw [Array.getD_eq_getD_getElem?,Array.getElem?_replicate] at hn
      split at hn<;>simp at hn
     refine any_sound hxs hcf hk ops.size _ (by simp) (Nat.le_trans List.countP_le_length (by simp)) (n:=ops.size+1) (E:=[]) (ρ:=ρ) (T:=T) (h:=h)
      ⟨fun i hi=>absurd hi (hnl i),fun i x hi=>absurd hi (hnl i),Good.nil,fun e he=>(by cases he),f'.sim,f'.ext,fun t v ht=>.inr (.inr (f'.tmps t v ht)),f'.size,f'.defers⟩ hps hr
    ·cases hc
   ·cases hc
theorem call_holds {L d:Nat} {f:FuncId} {args:List AVal} {h:AHeap} {k:Post} (hs:call (compF P G) L d f args h k):cfP P G f args h k :=
 call_sound (region_ok P G) L d f args h k hs
noncomputable def lpAny (body:Kn->Kn):Kn:=fun T h=>∃ n,loopN body n T h
theorem body_holds {f:FuncId} {args:List AVal} {h:AHeap} {k:Post} (hs:callBody (compF P G) lpAny (cfP P G) f args h k):cfP P G f args h k :=
 callBody_sound (fun _ _ _ h=>h) (region_ok P G) (fun _ _ _ _ h=>h) hs
end
end Go.Ab
namespace Go.Ab
def Tle (T T':PT AVal):Prop:=∀ p v,T.get p=some v->T'.get p=some v
theorem Tle.refl (T:PT AVal):Tle T T:=fun _ _ h=>h
theorem Tle.put {T T':PT AVal} (h:Tle T T') (v:Option AVal) (p:List Bool):Tle (T.put v p) (T'.put v p):=by
 intro q u hu
 rw [PT.get_put] at hu ⊢
 split
 ·rename_i e;rw [if_pos e] at hu;exact hu
 ·rename_i e;rw [if_neg e] at hu;exact h _ _ hu
section
variable {T T':PT AVal}
theorem Tle.opd (h:Tle T T') {x:Opd} {a:AVal} (hx:x.get T=some a):x.get T'=some a:=by
 cases x with
 | t p=>exact h _ _ hx
 | v b=>exact hx
 | bad=>exact hx
theorem Tle.all (h:Tle T T'):∀ {xs:List Opd} {as:List AVal},getAll T xs=some as->getAll T' xs=some as
 | [],_,hx=>hx
 | x :: xs,as,hx=>by
  have hx:ob (x.get T) (fun a=>ob (getAll T xs) fun as=>some (a :: as))=some as:=hx
  show ob (x.get T') (fun a=>ob (getAll T' xs) fun as=>some (a :: as))=some as
  obtain ⟨a,h1,h2⟩:=ob_eq.1 hx
  obtain ⟨b,h3,h4⟩:=ob_eq.1 h2
  rw [h.opd h1,h.all h3];exact h4
theorem Tle.fill (h:Tle T T'):∀ {ps:List ((Nat×Nat)×Opd)} {c cs:List AVal},fillA T ps c=some cs->fillA T' ps c=some cs
 | [],_,_,hx=>hx
 | p :: ps,c,cs,hx=>by
  have hx:ob (p.2.get T) (fun v=>bi (Nat.beq v.cells.length p.1.2) (bi (Nat.ble (p.1.1+p.1.2) c.length) (fillA T ps (listPut c p.1.1 v.cells)) none) none)=some cs:=hx
  show ob (p.2.get T') (fun v=>bi (Nat.beq v.cells.length p.1.2) (bi (Nat.ble (p.1.1+p.1.2) c.length) (fillA T' ps (listPut c p.1.1 v.cells)) none) none)=some cs
  obtain ⟨v,h1,h2⟩:=ob_eq.1 hx
  rw [h.opd h1]
  simp only [ob_some,bi_eq] at h2 ⊢
  split at h2
  ·rename_i e
   rw [if_pos e]
   split at h2
   ·rename_i e2;rw [if_pos e2];exact h.fill h2
   ·cases h2
  ·cases h2
theorem Tle.opt (h:Tle T T') {x:Option Opd} {r:Option AVal} (hx:getOpt T x=some r):getOpt T' x=some r:=by
 cases x with
 | none=>exact hx
 | some x =>
  have hx:ob (x.get T) (fun a=>some (some a))=some r:=hx
  show ob (x.get T') (fun a=>some (some a))=some r
  obtain ⟨a,h1,h2⟩:=ob_eq.1 hx
  rw [h.opd h1];exact h2
theorem opk_mono {r r':Out} {q q':Ko} (hq:∀ v h,q v h->q' v h) (hr:∀ x,r=some x->r'=some x) (k:opk r q):opk r' q':=by
 obtain ⟨v,h,e,k⟩:=opk_iff.1 k
 rw [hr _ e]
 exact hq _ _ k
theorem ob_mono {α β:Type} {o o':Option α} {f f':α->Option β} (h:∀ a,o=some a->o'=some a) (hf:∀ a b,f a=some b->f' a=some b) (x:β) (k:ob o f=some x):ob o' f'=some x:=by
 obtain ⟨a,h1,h2⟩:=ob_eq.1 k
 rw [h _ h1];exact hf _ _ h2
theorem retO_mono {h:AHeap} {o o':Option AVal} (k:∀ a,o=some a->o'=some a) (x:Option AVal×AHeap) (hx:retO h o=some x):retO h o'=some x:=by
 obtain ⟨a,h1,h2⟩:=retO_eq.1 hx
 rw [k _ h1,h2];rfl
def CfMono (cf:CallF):Prop:=∀ f args h k k',(∀ v h,k v h->k' v h)->cf f args h k->cf f args h k'
theorem nextMA_mono {a:AVal} {h:AHeap} {q q':Ko} (hq:∀ v h,q v h->q' v h) (k:nextMA a h q):nextMA a h q':=by
 have main:∀ {o o':Option Prop},(∀ p,o=some p->∃ p',o'=some p'/\(p->p'))->oe o False (fun p=>p)->oe o' False (fun p=>p):=by
  intro o o' H k
  cases o with
  | none=>exact k.elim
  | some p=>obtain ⟨p',e,hp⟩:=H p rfl;rw [e];exact hp k
 refine main (fun p hp=>?_) k
 simp only [onPtr_eq,bi_some,ob_eq,onMIter_eq] at hp
 obtain ⟨b,o,rfl,h1,y,h2,m,s,l,c,rfl,h3⟩:=hp
 simp only [onPtr,h1,h2,bi_true,ob_some,onMIter]
 cases m with
 | none =>
  simp only [oe_none,Option.some.injEq] at h3 ⊢
  subst h3
  exact ⟨_,rfl,hq _ _⟩
 | some m =>
  simp only [oe_some,ob_eq,onEntries_eq,bi_some'] at h3
  obtain ⟨z,h4,kt,es,cl,rfl,h5,h6⟩:=h3
  cases h6
  refine ⟨allK (stepped h b m s l cl q') (candidates es s l),by simp only [oe_some,h4,ob_some,onEntries,h5,bi_false],fun hk=>?_⟩
  have allMono:∀ {f f':Option AEntry->Prop} (_:∀ c,f c->f' c) (l:List (Option AEntry)),allK f l->allK f' l:=by
   intro f f' hf l
   induction l with
   | nil=>intro h;exact h
   | cons c l ih =>
    cases l with
    | nil=>exact hf c
    | cons d l=>intro h;exact ⟨hf c h.1,ih h.2⟩
  refine allMono (fun c hc=>?_) _ hk
  cases c with
  | none=>exact hq _ _ hc
  | some e=>exact hq _ _ hc
theorem step_mono {cf:CallF} (hcf:CfMono cf) (h:Tle T T') {hp:AHeap} {q q':Ko} (hq:∀ v h,q v h->q' v h) (op:POp) (k:step op cf T hp q):step op cf T' hp q':=by
 have r1:∀ {x:Opd} {f:AVal->Option AVal},opk (retO hp (ob (x.get T) f)) q->opk (retO hp (ob (x.get T') f)) q':=fun k=>opk_mono hq (retO_mono fun a ha=>ob_mono (fun _=>h.opd) (fun _ _ e=>e) a ha) k
 have r2:∀ {x y:Opd} {f:AVal->AVal->Option AVal},opk (retO hp (ob (x.get T) fun a=>ob (y.get T) (f a))) q->opk (retO hp (ob (x.get T') fun a=>ob (y.get T') (f a))) q' :=
  fun k=>opk_mono hq (retO_mono fun a ha=>ob_mono (fun _=>h.opd) (fun _ _ e=>ob_mono (fun _=>h.opd) (fun _ _ e=>e) _ e) a ha) k
 have o1:∀ {x:Opd} {f:AVal->Out},opk (ob (x.get T) f) q->opk (ob (x.get T') f) q':=fun k=>opk_mono hq (fun a ha=>ob_mono (fun _=>h.opd) (fun _ _ e=>e) a ha) k
 have o2:∀ {x y:Opd} {f:AVal->AVal->Out},opk (ob (x.get T) fun a=>ob (y.get T) (f a)) q->opk (ob (x.get T') fun a=>ob (y.get T') (f a)) q' :=
  fun k=>opk_mono hq (fun a ha=>ob_mono (fun _=>h.opd) (fun _ _ e=>ob_mono (fun _=>h.opd) (fun _ _ e=>e) _ e) a ha) k
 cases op with
 | bad=>exact k
 | move x=>exact opk_mono hq (retO_mono fun a ha=>h.opd ha) k
 | load1 x=>exact o1 k
 | load n x=>exact o1 k
 | pick c a b =>
  refine opk_mono hq (retO_mono fun v hv=>ob_mono (fun _=>h.opd) (fun t r e=>?_) v hv) k
  obtain ⟨t,rfl,e⟩:=onBool_eq.1 e
  show onBool (.bool t) (fun t=>bi t (a.get T') (b.get T'))=some r
  cases t
  ·exact h.opd e
  ·exact h.opd e
 | new cs=>exact hq _ _ k
 | box x=>exact o1 k
 | build z ps=>exact opk_mono hq (fun a ha=>ob_mono (fun _=>h.fill) (fun _ _ e=>e) a ha) k
 | buildSlice l s z ps=>exact opk_mono hq (fun a ha=>ob_mono (fun _=>h.fill) (fun _ _ e=>e) a ha) k
 | store n a x=>exact o2 (f:=fun p v=>storeA n p v hp) k
 | nilCheck x=>exact r1 k
 | bin op t x y=>exact r2 (f:=fun a b=>binA hp op t a b) k
 | un op x=>exact r1 k
 | conv c x=>exact o1 k
 | makeFunc f a b=>exact opk_mono hq (fun r hr=>ob_mono (fun _=>h.all) (fun _ _ e=>ob_mono (fun _=>h.all) (fun _ _ e=>e) _ e) r hr) k
 | makeMap kt r =>
  cases r with
  | none=>exact hq _ _ k
  | some x=>exact o1 (f:=fun a=>onInt a fun _ _=>ret (hp.new (.map kt [] 0)) (.map hp.next)) k
 | makeSlice s z l c=>exact o2 (f:=fun l c=>makeSliceA s z l c hp) k
 | slice kk x lo hi mx =>
  exact opk_mono hq (retO_mono fun a ha=>ob_mono (fun _=>h.opd) (fun _ _ e=>ob_mono (fun _=>h.opt) (fun _ _ e=>ob_mono (fun _=>h.opt) (fun _ _ e=>ob_mono (fun _=>h.opt) (fun _ _ e=>e) _ e) _ e) _ e) a ha) k
 | fieldAddr off x=>exact o1 k
 | part s off x=>exact r1 k
 | indexAddrS s x i=>exact r2 (f:=fun a b=>indexAddrS s a b) k
 | indexAddrA l s x i=>exact r2 (f:=fun a b=>indexAddrA l s a b) k
 | indexA s l z x i=>exact r2 (f:=fun a b=>indexA s l z a b) k
 | indexS x i=>exact r2 (f:=fun a b=>indexS a b) k
 | lookup K z ok m x=>exact r2 (f:=fun a b=>lookupA K z ok a b hp) k
 | update K m x y =>
  exact opk_mono hq (fun r hr=>ob_mono (fun _=>h.opd) (fun _ _ e=>ob_mono (fun _=>h.opd) (fun _ _ e=>ob_mono (fun _=>h.opd) (fun _ _ e=>e) _ e) _ e) r hr) k
 | range x=>exact o1 k
 | next x=>exact o1 k
 | extract x i=>exact r1 k
 | call f as =>
  obtain ⟨g,h1,k⟩:=obP_iff.1 k
  obtain ⟨bs,h2,k⟩:=obP_iff.1 k
  refine obP_iff.2 ⟨g,h.opd h1,obP_iff.2 ⟨bs,h.all h2,?_⟩⟩
  obtain ⟨p,h3,k⟩:=obP_iff.1 k
  exact obP_iff.2 ⟨p,h3,hcf _ _ _ _ _ (fun v hp=>hq _ _) k⟩
 | callF f as =>
  obtain ⟨bs,h2,k⟩:=obP_iff.1 k
  exact obP_iff.2 ⟨bs,h.all h2,hcf _ _ _ _ _ (fun v hp=>hq _ _) k⟩
 | len kk x=>exact r1 k
 | append s x y=>exact o2 (f:=fun a b=>appendA hp s a b) k
 | minmax l x y=>exact r2 (f:=fun a b=>onInt a fun k m=>onInt b fun k' n=>bi (sameK k k') (some (.int k (bi l (bi (ltI n m) n m) (bi (ltI m n) n m)))) none) k
 | copy s x y=>exact o2 (f:=fun a b=>copyA hp s a b) k
 | clear s z x=>exact o1 k
 | delete K x y=>exact o2 (f:=fun a b=>deleteA K a b hp) k
 | rangeM x=>exact o1 k
 | nextM x =>
  obtain ⟨a,h1,k⟩:=obP_iff.1 k
  exact obP_iff.2 ⟨a,h.opd h1,nextMA_mono hq k⟩
 | entry x=>exact o1 k
 | mapEntry K z x y=>exact o2 (f:=fun a b=>mapEntryA K z a b hp) k
 | entryStore m x y =>
  exact opk_mono hq (fun r hr=>ob_mono (fun _=>h.opd) (fun _ _ e=>ob_mono (fun _=>h.opd) (fun _ _ e=>ob_mono (fun _=>h.opd) (fun _ _ e=>e) _ e) _ e) r hr) k
def KRel (kn kn':Kn):Prop:=∀ T T' h,Tle T T'->kn T h->kn' T' h
theorem runOper_mono {cf:CallF} (hcf:CfMono cf) {kn kn':Kn} (hk:KRel kn kn') (o:POper):KRel (runOper o cf kn) (runOper o cf kn'):=by
 have put:∀ op d,KRel (runPut op d cf kn) (runPut op d cf kn'):=fun op d T T' h ht k=>step_mono hcf ht (fun v h k=>hk _ _ _ (ht.put v d) k) op k
 have run:∀ op,KRel (runRun op cf kn) (runRun op cf kn'):=fun op T T' h ht k=>step_mono hcf ht (fun v h k=>hk _ _ _ ht k) op k
 have on:∀ {g want} {T T':PT AVal} {yes no yes' no':Prop},Tle T T'->(yes->yes')->(no->no')->runOn g want T yes no->runOn g want T' yes' no':=by
  intro g want T T' yes no yes' no' ht h1 h2 k
  obtain ⟨b,hb,k⟩:=obP_iff.1 k
  obtain ⟨v,hv,hb⟩:=ob_eq.1 hb
  refine obP_iff.2 ⟨b,by rw [ht _ _ hv];exact hb,?_⟩
  rw [bi_eq] at k ⊢
  split at k
  ·rename_i e;rw [if_pos e];exact h1 k
  ·rename_i e;rw [if_neg e];exact h2 k
 have chk:∀ {op d} {T T':PT AVal} {h:AHeap} {x x':Prop},Tle T T'->(x->x')->runChk op d cf T h x->runChk op d cf T' h x':=by
  intro op d T T' h x x' ht hx k
  refine step_mono hcf ht (fun v h k=>?_) op k
  rw [bi_eq] at k ⊢
  split at k
  ·rename_i e
   rw [if_pos]
   ·exact hx k
   ·cases v with
    | none=>exact e
    | some v =>
     simp only [oe_some] at e ⊢
     cases hT:T.get d with
     | none=>rw [hT] at e;cases e
     | some u=>rw [hT] at e;rw [ht _ _ hT];exact e
  ·exact k.elim
 intro T T' h ht k
 cases o with
 | put op d=>exact put op d _ _ _ ht k
 | run op=>exact run op _ _ _ ht k
 | on g want op d =>
  cases d with
  | none=>exact on ht (run op _ _ _ ht) (hk _ _ _ ht) k
  | some d=>exact on ht (put op d _ _ _ ht) (hk _ _ _ (ht.put (some skipV) d)) k
 | chk g op d =>
  cases g with
  | none=>exact chk ht (hk _ _ _ ht) k
  | some g=>exact on ht (chk ht (hk _ _ _ ht)) (hk _ _ _ ht) k
theorem runOps_mono {cf:CallF} (hcf:CfMono cf) {kn kn':Kn} (hk:KRel kn kn'):∀ os,KRel (runOps os cf kn) (runOps os cf kn')
 | []=>hk
 | o :: os=>fun T T' h ht k=>runOper_mono hcf (runOps_mono hcf hk os) o T T' h ht k
end
abbrev Slots:=List (Nat×AVal)
noncomputable def treeOf (l:Slots):PT AVal:=l.foldr (fun p t=>t.put (some p.2) (path p.1)) .leaf
def Has (T:PT AVal):Slots->Prop
 | []=>True
 | p :: l=>T.get (path p.1)=some p.2/\Has T l
theorem Has.le {T:PT AVal}:∀ {l:Slots},Has T l->Tle (treeOf l) T
 | [],_=>fun p v h=>by simp [treeOf] at h
 | p :: l,h=>fun q v hv=>by
  have hv:((treeOf l).put (some p.2) (path p.1)).get q=some v:=hv
  rw [PT.get_put] at hv
  split at hv
  ·rename_i e;cases hv;rw [<-e];exact h.1
  ·exact h.2.le _ _ hv
theorem cfP_mono (P:Program) (G:List Nat):CfMono (cfP P G):=by
 intro f args h k k' hk ⟨h1,h2⟩
 refine ⟨h1,fun ρ w VS s r=>Calls.mono (h2 ρ w VS s r) fun e w' he=>?_⟩
 obtain ⟨V,v,h',ρ',r1,r2,r3,r4,r5⟩:=he
 exact ⟨V,v,h',ρ',r1,r2,r3,r4,hk _ _ r5⟩
end Go.Ab
namespace Go.Ab
noncomputable def lpI (B:Kn->Kn):Kn:=fun T h=>∃ (σ:Type) (I:σ->AHeap->Prop) (sl:σ->Slots) (μ:σ->Nat) (s:σ),Has T (sl s)/\I s h /\
 ∀ s h,I s h->B (fun T' h'=>∃ s',μ s' < μ s/\Has T' (sl s')/\I s' h') (treeOf (sl s)) h
theorem Has.up {T1 T2:PT AVal} (ht:Tle T1 T2):∀ {l:Slots},Has T1 l->Has T2 l
 | [],_=>trivial
 | p :: l,k=>⟨ht _ _ k.1,k.2.up ht⟩
theorem lpI_any {B B':Kn->Kn} (hB:∀ kn kn',KRel kn kn'->KRel (B kn) (B' kn')):KRel (lpI B) (lpAny B'):=by
 rintro T T' h ht ⟨σ,I,sl,μ,s,hT,hI,H⟩
 have main:∀ m s T h,μ s < m->Has T (sl s)->I s h->loopN B' m T h:=by
  intro m
  induction m with
  | zero=>intro s T h hm;omega
  | succ m ih =>
   intro s T h hm hT hI
   refine hB (fun T' h'=>∃ s',μ s' < μ s/\Has T' (sl s')/\I s' h') (loopN B' m) ?_ _ _ _ hT.le (H s h hI)
   rintro T1 T2 h1 ht ⟨s',k1,k2,k3⟩
   exact ih s' T2 h1 (by omega) (k2.up ht) k3
 exact ⟨μ s+1,main _ s T' h (by omega) (hT.up ht) hI⟩
def LpRel (lp lp':(Kn->Kn)->Kn):Prop:=∀ B B':Kn->Kn,(∀ kn kn',KRel kn kn'->KRel (B kn) (B' kn'))->KRel (lp B) (lp' B')
theorem run_rel {lp lp':(Kn->Kn)->Kn} (hlp:LpRel lp lp') {cf:CallF} (hcf:CfMono cf):∀ (c:PCode) {kn kn':Kn} {kx kx':Kx} {kr kr':Kn},KRel kn kn'->(∀ i,KRel (kx i) (kx' i))->KRel kr kr'->KRel (run lp c cf kn kx kr) (run lp' c cf kn' kx' kr')
 | .bad,_,_,_,_,_,_,_,_,_,_,_,_,_,k=>k
 | .skip,_,_,_,_,_,_,h1,_,_,_,_,_,ht,k=>h1 _ _ _ ht k
 | .region ops,_,_,_,_,_,_,h1,_,_,_,_,_,ht,k=>runOps_mono hcf h1 ops _ _ _ ht k
 | .seq a b,_,_,_,_,_,_,h1,h2,h3,_,_,_,ht,k=>run_rel hlp hcf a (run_rel hlp hcf b h1 h2 h3) h2 h3 _ _ _ ht k
 | .cond c a b,_,_,_,_,_,_,h1,h2,h3,_,_,_,ht,k=>by
  obtain ⟨t,e,k⟩:=obP_iff.1 k
  obtain ⟨v,hv,e⟩:=ob_eq.1 e
  refine obP_iff.2 ⟨t,by rw [ht.opd hv];exact e,?_⟩
  cases t
  ·exact run_rel hlp hcf b h1 h2 h3 _ _ _ ht k
  ·exact run_rel hlp hcf a h1 h2 h3 _ _ _ ht k
 | .block id c,_,_,_,_,_,_,h1,h2,h3,_,_,_,ht,k=>by
  refine run_rel hlp hcf c h1 (fun i T T' h ht k=>?_) h3 _ _ _ ht k
  rw [bi_eq] at k ⊢
  split at k
  ·rename_i e;rw [if_pos e];exact h1 _ _ _ ht k
  ·rename_i e;rw [if_neg e];exact h2 i _ _ _ ht k
 | .loop c,_,_,_,_,_,_,_,h2,h3,_,_,_,ht,k=>hlp _ _ (fun kn kn' hk=>run_rel hlp hcf c hk h2 h3) _ _ _ ht k
 | .exit id,_,_,_,_,_,_,_,h2,_,_,_,_,ht,k=>h2 id _ _ _ ht k
 | .ret,_,_,_,_,_,_,_,_,h3,_,_,_,ht,k=>h3 _ _ _ ht k
theorem result_up {T T':PT AVal} (ht:Tle T T') {h:AHeap} {r:PResult} {v:AVal} (k:result T h r=some v):result T' h r=some v:=by
 cases r with
 | tmp p=>exact ht _ _ k
 | cell p s =>
  have k:ob (T.get p) (fun a=>onPtr a fun b off=>readVar h s b off)=some v:=k
  obtain ⟨a,h1,h2⟩:=ob_eq.1 k
  show ob (T'.get p) (fun a=>onPtr a fun b off=>readVar h s b off)=some v
  rw [ht _ _ h1];exact h2
theorem results_up {T T':PT AVal} (ht:Tle T T') {h:AHeap}:∀ {rs:List PResult} {vs:List AVal},resultsA T h rs=some vs->resultsA T' h rs=some vs
 | [],_,k=>k
 | r :: rs,vs,k=>by
  have k:ob (result T h r) (fun v=>ob (resultsA T h rs) fun vs=>some (v :: vs))=some vs:=k
  obtain ⟨a,h1,h2⟩:=ob_eq.1 k
  obtain ⟨b,h3,h4⟩:=ob_eq.1 h2
  show ob (result T' h r) (fun v=>ob (resultsA T' h rs) fun vs=>some (v :: vs))=some vs
  rw [result_up ht h1,ob_some,results_up ht h3];exact h4
theorem finish_up (rs:List PResult) (k:Post):KRel (finish rs k) (finish rs k):=by
 intro T T' h ht hk
 obtain ⟨vs,h1,h2⟩:=obP_iff.1 hk
 exact obP_iff.2 ⟨vs,results_up ht h1,h2⟩
def WF (h:AHeap):Prop:=∀ id,h.next<=id->h.get id=none
theorem WF.lt {h:AHeap} (w:WF h) {b:Nat} {x:ABlock} (e:h.get b=some x):b < h.next:=by
 by_cases k:b < h.next
 ·exact k
 ·rw [w b (by omega)] at e;cases e
variable {P:Program} {G:List Nat}
theorem compF_enters {f:FuncId} {fn:PFunc} (h:compF P G f=some fn):Enters P f:=by
 unfold compF at h
 split at h
 ·rename_i g hg
  split at h
  ·rename_i c rs hc hrs
   refine ⟨g,hg,by rw [hc];rfl,?_⟩
   cases hn:g.name == "runtime.NumGoroutine" with
   | false=>rfl
   | true=>rw [hn] at h;cases h
  ·cases h
 ·cases h
theorem cfP_wf {f:FuncId} {args:List AVal} {h:AHeap} {k:Post} (hE:Enters P f) (H:WF h->cfP P G f args h fun v h'=>WF h'->k v h'):cfP P G f args h k:=by
 refine ⟨hE,fun ρ w VS s r=>Calls.mono ((H fun id hid=>(s.fresh id hid).1).2 ρ w VS s r) fun e w' he=>?_⟩
 obtain ⟨V,v,h',ρ',r1,r2,r3,r4,r5⟩:=he
 exact ⟨V,v,h',ρ',r1,r2,r3,r4,r5 fun id hid=>(r3.fresh id hid).1⟩
theorem use_code {f:FuncId} {fn:PFunc} {args:List AVal} {h:AHeap} {k:Post} (hc:compF P G f=some fn)
  (H:WF h->run lpI fn.body (cfP P G) (finish fn.results fun v h'=>WF h'->k v h') (fun _ _ _=>False) (finish fn.results fun v h'=>WF h'->k v h') (ofList args) h):cfP P G f args h k:=by
 refine cfP_wf (compF_enters hc) fun hw=>body_holds ?_
 unfold callBody
 rw [hc]
 refine run_rel (lp:=lpI) (lp':=lpAny) (fun B B' hB=>lpI_any hB) (cfP_mono P G) fn.body (finish_up _ _) (fun _ _ _ _ _ k=>k) (finish_up _ _) _ _ _ (Tle.refl _) (H hw)
noncomputable abbrev q (n:Nat):Opd:=.t (path n)
noncomputable abbrev pu (n:Nat) (op:POp):POper:=.put op (path n)
noncomputable def blk (id:Nat) (kn:Kn) (kx:Kx):Kx:=fun i T h=>bi (Nat.beq i id) (kn T h) (kx i T h)
section
variable {lp:(Kn->Kn)->Kn} {cf:CallF} {kn:Kn} {kx:Kx} {kr:Kn} {T:PT AVal} {h:AHeap} {k:Ko}
@[simp] theorem nbeq' (a b:Nat):Nat.beq a b=decide (a=b):=nbeq a b
attribute [simp] nble addI_eq subI_eq mulI_eq ltI_iff
@[simp] theorem blk_hit (i:Nat) (kn:Kn) (kx:Kx) (T:PT AVal) (h:AHeap):blk i kn kx i T h=kn T h:=by simp [blk]
@[simp] theorem blk_eq (i j:Nat) (kn:Kn) (kx:Kx) (T:PT AVal) (h:AHeap):blk i kn kx j T h=if j=i then kn T h else kx j T h:=by
 unfold blk;rw [bi_eq,nbeq];simp
@[simp] theorem run_skip:run lp .skip cf kn kx kr T h=kn T h:=(rfl)
@[simp] theorem run_exit (i:Nat):run lp (.exit i) cf kn kx kr T h=kx i T h:=(rfl)
@[simp] theorem run_ret:run lp .ret cf kn kx kr T h=kr T h:=(rfl)
theorem obP_some' {α:Type} (a:α) (f:α->Prop):obP (some a) f=f a:=(rfl)
noncomputable def ap (b:Bool) (K1 K2:Kn) (T:PT AVal) (h:AHeap):Prop:=(bi b K1 K2) T h
noncomputable def contK (n:List Bool) (os:List POper) (cf:CallF) (kn:Kn) (T:PT AVal):Ko:=fun v h=>runOps os cf kn (T.put v n) h
noncomputable def contR (os:List POper) (cf:CallF) (kn:Kn) (T:PT AVal):Ko:=fun _ h=>runOps os cf kn T h
noncomputable def skipK (n:List Bool) (os:List POper) (cf:CallF) (kn:Kn):Kn:=fun T h=>runOps os cf kn (T.put (some skipV) n) h
noncomputable def guardK (K1 K2:Kn) (T:PT AVal) (h:AHeap):Bool->Prop:=fun b=>ap b K1 K2 T h
noncomputable def condK (K1 K2:Kn) (T:PT AVal) (h:AHeap):Bool->Prop:=fun b=>ap b K1 K2 T h
noncomputable def chkK (n:List Bool) (os:List POper) (cf:CallF) (kn:Kn) (T:PT AVal) (h:AHeap):Ko:=fun v _=>bi (oe v false fun v=>oe (T.get n) false fun u=>sameV v u) (runOps os cf kn T h) False
noncomputable def chkR (op:POp) (n:List Bool) (os:List POper) (cf:CallF) (kn:Kn):Kn:=fun T h=>step op cf T h (chkK n os cf kn T h)
noncomputable def retK (k:Ko):Post:=fun v h=>k (some v) h
@[simp] theorem ap_true (K1 K2:Kn) (T:PT AVal) (h:AHeap):ap true K1 K2 T h=K1 T h:=(rfl)
@[simp] theorem ap_false (K1 K2:Kn) (T:PT AVal) (h:AHeap):ap false K1 K2 T h=K2 T h:=(rfl)
@[simp] theorem ap_not (b:Bool) (K1 K2:Kn) (T:PT AVal) (h:AHeap):ap (!b) K1 K2 T h=ap b K2 K1 T h:=by cases b<;>rfl
theorem ap_split {c:Prop} [Decidable c] {K1 K2:Kn} {T:PT AVal} {h:AHeap} (h1:c->K1 T h) (h2:¬ c->K2 T h):ap (decide c) K1 K2 T h:=by
 by_cases h:c
 ·rw [decide_eq_true h];exact h1 h
 ·rw [decide_eq_false h];exact h2 h
theorem ap_cases {b:Bool} {K1 K2:Kn} {T:PT AVal} {h:AHeap} (h1:b=true->K1 T h) (h2:b=false->K2 T h):ap b K1 K2 T h:=by
 cases b
 ·exact h2 rfl
 ·exact h1 rfl
@[simp] theorem contK_some (n:List Bool) (os:List POper) (cf:CallF) (kn:Kn) (T:PT AVal) (v:Option AVal) (h:AHeap):contK n os cf kn T v h=runOps os cf kn (T.put v n) h:=(rfl)
@[simp] theorem contR_some (os:List POper) (cf:CallF) (kn:Kn) (T:PT AVal) (v:Option AVal) (h:AHeap):contR os cf kn T v h=runOps os cf kn T h:=(rfl)
@[simp] theorem skipK_app (n:List Bool) (os:List POper) (cf:CallF) (kn:Kn) (T:PT AVal) (h:AHeap):skipK n os cf kn T h=runOps os cf kn (T.put (some skipV) n) h:=(rfl)
@[simp] theorem gB_bool (want b:Bool):gB want (.bool b)=some (b == want):=(rfl)
@[simp] theorem gB_skip (want:Bool):gB want skipV=some false:=(rfl)
@[simp] theorem guardK_app (K1 K2:Kn) (T:PT AVal) (h:AHeap) (b:Bool):guardK K1 K2 T h b=ap b K1 K2 T h:=(rfl)
@[simp] theorem condK_app (K1 K2:Kn) (T:PT AVal) (h:AHeap) (b:Bool):condK K1 K2 T h b=ap b K1 K2 T h:=(rfl)
@[simp] theorem chkK_app (n:List Bool) (os:List POper) (cf:CallF) (kn:Kn) (T:PT AVal) (h h':AHeap) (v:AVal):chkK n os cf kn T h (some v) h'=bi (oe (T.get n) false fun u=>sameV v u) (runOps os cf kn T h) False:=(rfl)
@[simp] theorem chkR_app (op:POp) (n:List Bool) (os:List POper) (cf:CallF) (kn:Kn) (T:PT AVal) (h:AHeap):chkR op n os cf kn T h=step op cf T h (chkK n os cf kn T h):=(rfl)
@[simp] theorem retK_app (k:Ko) (v:AVal) (h:AHeap):retK k v h=k (some v) h:=(rfl)
@[simp] theorem callA_eq (cf:CallF) (f:FuncId) (args:List AVal) (h:AHeap) (k:Ko):callA cf f args h k=cf f args h (retK k):=(rfl)
@[simp] theorem runOps_nil:runOps [] cf kn T h=kn T h:=(rfl)
@[simp] theorem runOps_put (op:POp) (n:Nat) (os:List POper):runOps (pu n op :: os) cf kn T h=step op cf T h (contK (path n) os cf kn T):=(rfl)
@[simp] theorem runOps_put' (op:POp) (n:List Bool) (os:List POper):runOps (.put op n :: os) cf kn T h=step op cf T h (contK n os cf kn T):=(rfl)
@[simp] theorem runOps_run (op:POp) (os:List POper):runOps (.run op :: os) cf kn T h=step op cf T h (contR os cf kn T):=(rfl)
theorem guard_eq (o:Option Bool) (K1 K2:Kn) (T:PT AVal) (h:AHeap):obP o (fun b=>bi b (K1 T h) (K2 T h))=obP o (guardK K1 K2 T h):=by
 cases o with
 | none=>rfl
 | some b=>simp only [obP_some',guardK,ap];cases b<;>rfl
theorem run_cond (c:Opd) (a b:PCode):run lp (.cond c a b) cf kn kx kr T h=obP (ob (Opd.get c T) fun v=>onBool v some) (condK (run lp a cf kn kx kr) (run lp b cf kn kx kr) T h):=by
 show obP _ (fun t=>bi t _ _)=_
 cases ob (Opd.get c T) fun v=>onBool v some with
 | none=>rfl
 | some b=>simp only [obP_some',condK,ap];cases b<;>rfl
@[simp] theorem runOps_on (g:List Bool) (want:Bool) (op:POp) (n:List Bool) (os:List POper):runOps (.on g want op (some n) :: os) cf kn T h =
  obP (ob (T.get g) (gB want)) (guardK (runOps (.put op n :: os) cf kn) (skipK n os cf kn) T h):=guard_eq _ (runOps (.put op n :: os) cf kn) (skipK n os cf kn) T h
@[simp] theorem runOps_on' (g:List Bool) (want:Bool) (op:POp) (os:List POper):runOps (.on g want op none :: os) cf kn T h =
  obP (ob (T.get g) (gB want)) (guardK (runOps (.run op :: os) cf kn) (runOps os cf kn) T h):=guard_eq _ (runOps (.run op :: os) cf kn) (runOps os cf kn) T h
@[simp] theorem runOps_chk (op:POp) (n:List Bool) (os:List POper):runOps (.chk none op n :: os) cf kn T h=step op cf T h (chkK n os cf kn T h):=(rfl)
@[simp] theorem runOps_chk' (g:List Bool) (want:Bool) (op:POp) (n:List Bool) (os:List POper):runOps (.chk (some (g,want)) op n :: os) cf kn T h =
  obP (ob (T.get g) (gB want)) (guardK (chkR op n os cf kn) (runOps os cf kn) T h):=guard_eq _ (chkR op n os cf kn) (runOps os cf kn) T h
@[simp] theorem bi_not {β:Type} (b:Bool) (x y:β):bi (!b) x y=bi b y x:=by cases b<;>rfl
@[simp] theorem pickA_bool (T:PT AVal) (b:Bool) (x y:Opd):pickA T (.bool b) x y=bi b (x.get T) (y.get T):=(rfl)
@[simp] theorem obP_some {α:Type} (a:α) (f:α->Prop):obP (some a) f=f a:=(rfl)
@[simp] theorem obP_none {α:Type} (f:α->Prop):obP none f=False:=(rfl)
@[simp] theorem opk_some (v:Option AVal) (h:AHeap) (k:Ko):opk (some (v,h)) k=k v h:=(rfl)
@[simp] theorem opk_none (k:Ko):opk none k=False:=(rfl)
@[simp] theorem ret_some (v:AVal) (h:AHeap):ret h v=some (some v,h):=(rfl)
@[simp] theorem retO_some (v:AVal) (h:AHeap):retO h (some v)=some (some v,h):=(rfl)
@[simp] theorem opd_t (p:List Bool) (T:PT AVal):(Opd.t p).get T=T.get p:=(rfl)
@[simp] theorem opd_v (a:AVal) (T:PT AVal):(Opd.v a).get T=some a:=(rfl)
@[simp] theorem getAll_nil (T:PT AVal):getAll T []=some []:=(rfl)
@[simp] theorem getAll_cons (T:PT AVal) (x:Opd) (xs:List Opd):getAll T (x :: xs)=ob (x.get T) fun a=>ob (getAll T xs) fun as=>some (a :: as):=(rfl)
@[simp] theorem getOpt_none (T:PT AVal):getOpt T none=some none:=(rfl)
@[simp] theorem getOpt_some (T:PT AVal) (x:Opd):getOpt T (some x)=ob (x.get T) fun a=>some (some a):=(rfl)
@[simp] theorem fillA_nil (T:PT AVal) (c:List AVal):fillA T [] c=some c:=(rfl)
@[simp] theorem fillA_cons (T:PT AVal) (p:(Nat×Nat)×Opd) (ps:List ((Nat×Nat)×Opd)) (c:List AVal):fillA T (p :: ps) c =
 ob (p.2.get T) fun v=>bi (Nat.beq v.cells.length p.1.2) (bi (Nat.ble (p.1.1+p.1.2) c.length) (fillA T ps (listPut c p.1.1 v.cells)) none) none:=(rfl)
section
variable {β:Type} (f1:Bool->Option β) (fi:IntKind->Int->Option β) (fs:List UInt8->Option β) (fp:Nat->Nat->Option β) (f5:Nat->Nat->Nat->Nat->Nat->Option β) (fm:Nat->Option β) (ff:FuncId->List AVal->List AVal->Option β) (fa:List AVal->Option β) (n:Option β)
@[simp] theorem onBool_c (b:Bool):onBool (.bool b) f1=f1 b:=(rfl)
@[simp] theorem onInt_c (k:IntKind) (i:Int):onInt (.int k i) fi=fi k i:=(rfl)
@[simp] theorem onStr_c (s:List UInt8):onStr (.str s) fs=fs s:=(rfl)
@[simp] theorem onPtr_c (b o:Nat):onPtr (.ptr b o) fp=fp b o:=(rfl)
@[simp] theorem onSlice_c (b o l c z:Nat):onSlice (.slice b o l c z) f5=f5 b o l c z:=(rfl)
@[simp] theorem onMap_c (b:Nat):onMap (.map b) fm=fm b:=(rfl)
@[simp] theorem onFunc_c (f:FuncId) (x y:List AVal):onFunc (.func f x y) ff=ff f x y:=(rfl)
@[simp] theorem onAgg_c (x:List AVal):onAgg (.agg x) fa=fa x:=(rfl)
@[simp] theorem onTup_c (x:List AVal):onTup (.tup x) fa=fa x:=(rfl)
@[simp] theorem onRow_c (b o l c z:Nat):onRow (.slice b o l c z) n f5=f5 b o l c z:=(rfl)
@[simp] theorem onRow_n:onRow .nils n f5=n:=(rfl)
@[simp] theorem onMapV_c (b:Nat):onMapV (.map b) n fm=fm b:=(rfl)
@[simp] theorem onMapV_n:onMapV .nilm n fm=n:=(rfl)
@[simp] theorem onCells_c (m:Nat) (a:PT AVal) (k:Nat) (f:Nat->PT AVal->Nat->Option β):onCells (.cells m a k) f=f m a k:=(rfl)
@[simp] theorem onEntries_c (kt:TypeId) (es:List AEntry) (c:Nat) (f:TypeId->List AEntry->Nat->Option β):onEntries (.map kt es c) f=f kt es c:=(rfl)
@[simp] theorem onNat_c (k:IntKind) (i:Nat):onNat (.int k (i:Int)) fm=fm i:=(rfl)
@[simp] theorem onNat_lit (k:IntKind) (i:Nat):onNat (.int k (OfNat.ofNat i)) fm=fm i:=(rfl)
@[simp] theorem onNat_0 (k:IntKind):onNat (.int k 0) fm=fm 0:=(rfl)
@[simp] theorem onNat_1 (k:IntKind):onNat (.int k 1) fm=fm 1:=(rfl)
@[simp] theorem onNat_add (k:IntKind) (i:Nat):onNat (.int k ((i:Int)+1)) fm=fm (i+1):=(rfl)
end
@[simp] theorem onShape_one {β:Type} (a:β) (f:Nat->β):onShape .one a f=a:=(rfl)
@[simp] theorem onShape_agg {β:Type} (a:β) (f:Nat->β) (n:Nat):onShape (.agg n) a f=f n:=(rfl)
@[simp] theorem eqI_eq (a b:Int):eqI a b=decide (a=b):=by rw [eqI_iff];by_cases h:a=b<;>simp [h]
@[simp] theorem sameK_self (k:IntKind):sameK k k=true:=by simp [sameK]
@[simp] theorem onLeaf_int {β:Type} (k:IntKind) (n:Int) (fi:IntKind->Int->β) (fs:List UInt8->β) (fb:Bool->β) (d:β):onLeaf (.int k n) fi fs fb d=fi k n:=(rfl)
@[simp] theorem onLeaf_str {β:Type} (s:List UInt8) (fi:IntKind->Int->β) (fs:List UInt8->β) (fb:Bool->β) (d:β):onLeaf (.str s) fi fs fb d=fs s:=(rfl)
@[simp] theorem onLeaf_bool {β:Type} (b:Bool) (fi:IntKind->Int->β) (fs:List UInt8->β) (fb:Bool->β) (d:β):onLeaf (.bool b) fi fs fb d=fb b:=(rfl)
section
variable (k:IntKind) (a b:Int)
@[simp] theorem binI_add:binI .add k k a b=some (.int k (wrapF k (a+b))):=by simp [binI,intOp]
@[simp] theorem binI_sub:binI .sub k k a b=some (.int k (wrapF k (a - b))):=by simp [binI,intOp]
@[simp] theorem binI_mul:binI .mul k k a b=some (.int k (wrapF k (a*b))):=by simp [binI,intOp]
@[simp] theorem binI_eql:binI .eql k k a b=some (.bool (decide (a=b))):=by simp [binI,intOp]
@[simp] theorem binI_neq:binI .neq k k a b=some (.bool (!decide (a=b))):=by simp [binI,intOp]
@[simp] theorem binI_lss:binI .lss k k a b=some (.bool (decide (a < b))):=by simp [binI,intOp]
@[simp] theorem binI_leq:binI .leq k k a b=some (.bool (!decide (b < a))):=by simp [binI,intOp]
@[simp] theorem binI_gtr:binI .gtr k k a b=some (.bool (decide (b < a))):=by simp [binI,intOp]
@[simp] theorem binI_geq:binI .geq k k a b=some (.bool (!decide (a < b))):=by simp [binI,intOp]
end
@[simp] theorem binA_int (h:AHeap) (op:BinOp) (t:EqT) (k k':IntKind) (a b:Int):binA h op t (.int k a) (.int k' b)=binI op k k' a b:=(rfl)
@[simp] theorem binA_str (h:AHeap) (op:BinOp) (t:EqT) (a b:List UInt8):binA h op t (.str a) (.str b)=strOp op a b:=(rfl)
@[simp] theorem binA_bool (h:AHeap) (op:BinOp) (t:EqT) (a b:Bool):binA h op t (.bool a) (.bool b)=boolOp op t a b:=(rfl)
@[simp] theorem unA_not (b:Bool):unA .not (.bool b)=some (.bool (!b)):=(rfl)
@[simp] theorem unA_neg (k:IntKind) (n:Int):unA .neg (.int k n)=some (.int k (wrapF k (0 - n))):=(rfl)
@[simp] theorem lenA_str (s:List UInt8) (h:AHeap):lenA .str (.str s) h=some (.int .i64 (s.length:Int)):=(rfl)
@[simp] theorem lenA_const (n:Nat) (x:AVal) (h:AHeap):lenA (.const n) x h=some (.int .i64 (n:Int)):=(rfl)
@[simp] theorem lenA_map (b:Nat) (h:AHeap):lenA .map (.map b) h=ob (h.get b) fun y=>onEntries y fun _ es _=>some (.int .i64 (es.length:Int)):=(rfl)
@[simp] theorem convA_toInt (k k':IntKind) (n:Int) (h:AHeap):convA (.toInt k) (.int k' n) h=some (some (.int k (wrapF k n)),h):=(rfl)
@[simp] theorem convA_strToStr (s:List UInt8) (h:AHeap):convA .strToStr (.str s) h=some (some (.str s),h):=(rfl)
@[simp] theorem convA_intToStr (k:IntKind) (n:Int) (h:AHeap):convA .intToStr (.int k n) h=some (some (.str (Utf8.encode n).data.toList),h):=(rfl)
theorem eqS_eq:∀ (a b:List UInt8),eqS a b=decide (a=b)
 | [],[]=>rfl
 | [],_ :: _=>by show false=_;simp
 | _ :: _,[]=>by show false=_;simp
 | x :: a,y :: b=>by
  show bi (Nat.beq x.toNat y.toNat) (eqS a b) false=_
  rw [bi_eq,nbeq,eqS_eq a b]
  by_cases h:x=y
  ·subst h;simp
  ·have:x.toNat≠y.toNat:=fun e=>h (UInt8.toNat_inj.1 e)
   simp [h,this]
@[simp] theorem strOp_eql (a b:List UInt8):strOp .eql a b=some (.bool (decide (a=b))):=by show some (AVal.bool (eqS a b))=_;rw [eqS_eq]
@[simp] theorem strOp_neq (a b:List UInt8):strOp .neq a b=some (.bool (!decide (a=b))):=by show some (AVal.bool (!(eqS a b)))=_;rw [eqS_eq]
@[simp] theorem boolOp_eql (a b:Bool):boolOp .eql .bool a b=some (.bool (a == b)):=(rfl)
@[simp] theorem boolOp_neq (a b:Bool):boolOp .neq .bool a b=some (.bool (!(a == b))):=(rfl)
theorem indexS_at {s:List UInt8} {i:Nat} (hi:i < s.length) (k:IntKind):indexS (.str s) (.int k (i:Int))=some (.int .u8 (s[i].toNat:Int)):=by
 show List.rec (motive:=fun _=>Option AVal) none (fun b _ _=>some (.int .u8 (Int.ofNat b.toNat))) (s.drop i)=_
 rw [List.drop_eq_getElem_cons hi];rfl
theorem wrap64 {n:Int} (h1:-9223372036854775808<=n) (h2:n < 9223372036854775808):wrapF .i64 n=n:=by
 cases n with
 | ofNat m =>
  show bi (Nat.ble (m+1) 9223372036854775808) (Int.ofNat m) _=_
  rw [nble,bi_eq,if_pos]
  rw [Int.ofNat_eq_natCast] at h2
  simp;omega
 | negSucc m =>
  show bi (Nat.ble (m+1) 9223372036854775808) (Int.negSucc m) _=_
  rw [nble,bi_eq,if_pos]
  rw [Int.negSucc_eq] at h1
  simp;omega
structure Hle (h h':AHeap):Prop where
 next:h.next<=h'.next
 get:∀ b x,h.get b=some x->h'.get b=some x
theorem Hle.refl (h:AHeap):Hle h h:=⟨Nat.le_refl _,fun _ _ k=>k⟩
theorem Hle.trans {a b c:AHeap} (x:Hle a b) (y:Hle b c):Hle a c:=⟨Nat.le_trans x.next y.next,fun _ _ k=>y.get _ _ (x.get _ _ k)⟩
theorem Hle.new {h:AHeap} (w:WF h) (x:ABlock):Hle h (h.new x):=⟨by simp,fun b y k=>by
 rw [AHeap.get_new,if_neg];exact k
 intro e;subst e;rw [w _ (Nat.le_refl _)] at k;cases k⟩
theorem WF.new {h:AHeap} (w:WF h) (x:ABlock):WF (h.new x):=fun id hid=>by
 simp at hid
 rw [AHeap.get_new,if_neg (by omega)];exact w id (by omega)
theorem WF.set {h:AHeap} (w:WF h) {b:Nat} (hb:b < h.next) (x:ABlock):WF (h.set b x):=fun id hid=>by
 simp at hid
 rw [AHeap.get_set,if_neg (by omega)];exact w id (by omega)
theorem WF.turn {h:AHeap} (w:WF h) (b:Nat) (x:ABlock):WF (h.turn b x):=fun id hid=>by
 simp at hid
 rw [AHeap.get_turn,if_neg (by omega)]
 split
 ·rfl
 ·exact w id (by omega)
end
end Go.Ab
namespace Go.Ab
@[simp] theorem path_0:path 0=[]:=by kernel_rfl
@[simp] theorem path_1:path 1=[true]:=by kernel_rfl
@[simp] theorem path_2:path 2=[false]:=by kernel_rfl
@[simp] theorem path_3:path 3=[true,true]:=by kernel_rfl
@[simp] theorem path_4:path 4=[false,true]:=by kernel_rfl
@[simp] theorem path_5:path 5=[true,false]:=by kernel_rfl
@[simp] theorem path_6:path 6=[false,false]:=by kernel_rfl
@[simp] theorem path_7:path 7=[true,true,true]:=by kernel_rfl
@[simp] theorem path_8:path 8=[false,true,true]:=by kernel_rfl
@[simp] theorem path_9:path 9=[true,false,true]:=by kernel_rfl
@[simp] theorem path_10:path 10=[false,false,true]:=by kernel_rfl
@[simp] theorem path_11:path 11=[true,true,false]:=by kernel_rfl
@[simp] theorem path_12:path 12=[false,true,false]:=by kernel_rfl
@[simp] theorem path_13:path 13=[true,false,false]:=by kernel_rfl
@[simp] theorem path_14:path 14=[false,false,false]:=by kernel_rfl
@[simp] theorem path_15:path 15=[true,true,true,true]:=by kernel_rfl
@[simp] theorem path_16:path 16=[false,true,true,true]:=by kernel_rfl
@[simp] theorem path_17:path 17=[true,false,true,true]:=by kernel_rfl
@[simp] theorem path_18:path 18=[false,false,true,true]:=by kernel_rfl
@[simp] theorem path_19:path 19=[true,true,false,true]:=by kernel_rfl
@[simp] theorem path_20:path 20=[false,true,false,true]:=by kernel_rfl
@[simp] theorem path_21:path 21=[true,false,false,true]:=by kernel_rfl
@[simp] theorem path_22:path 22=[false,false,false,true]:=by kernel_rfl
@[simp] theorem path_23:path 23=[true,true,true,false]:=by kernel_rfl
@[simp] theorem path_24:path 24=[false,true,true,false]:=by kernel_rfl
@[simp] theorem path_25:path 25=[true,false,true,false]:=by kernel_rfl
@[simp] theorem path_26:path 26=[false,false,true,false]:=by kernel_rfl
@[simp] theorem path_27:path 27=[true,true,false,false]:=by kernel_rfl
@[simp] theorem path_28:path 28=[false,true,false,false]:=by kernel_rfl
@[simp] theorem path_29:path 29=[true,false,false,false]:=by kernel_rfl
@[simp] theorem path_30:path 30=[false,false,false,false]:=by kernel_rfl
@[simp] theorem path_31:path 31=[true,true,true,true,true]:=by kernel_rfl
@[simp] theorem path_32:path 32=[false,true,true,true,true]:=by kernel_rfl
@[simp] theorem path_33:path 33=[true,false,true,true,true]:=by kernel_rfl
@[simp] theorem path_34:path 34=[false,false,true,true,true]:=by kernel_rfl
@[simp] theorem path_35:path 35=[true,true,false,true,true]:=by kernel_rfl
@[simp] theorem path_36:path 36=[false,true,false,true,true]:=by kernel_rfl
@[simp] theorem path_37:path 37=[true,false,false,true,true]:=by kernel_rfl
@[simp] theorem path_38:path 38=[false,false,false,true,true]:=by kernel_rfl
@[simp] theorem path_39:path 39=[true,true,true,false,true]:=by kernel_rfl
@[simp] theorem path_40:path 40=[false,true,true,false,true]:=by kernel_rfl
@[simp] theorem path_41:path 41=[true,false,true,false,true]:=by kernel_rfl
@[simp] theorem path_42:path 42=[false,false,true,false,true]:=by kernel_rfl
@[simp] theorem path_43:path 43=[true,true,false,false,true]:=by kernel_rfl
@[simp] theorem path_44:path 44=[false,true,false,false,true]:=by kernel_rfl
@[simp] theorem path_45:path 45=[true,false,false,false,true]:=by kernel_rfl
@[simp] theorem path_46:path 46=[false,false,false,false,true]:=by kernel_rfl
@[simp] theorem path_47:path 47=[true,true,true,true,false]:=by kernel_rfl
@[simp] theorem path_48:path 48=[false,true,true,true,false]:=by kernel_rfl
@[simp] theorem path_49:path 49=[true,false,true,true,false]:=by kernel_rfl
@[simp] theorem path_50:path 50=[false,false,true,true,false]:=by kernel_rfl
@[simp] theorem path_51:path 51=[true,true,false,true,false]:=by kernel_rfl
@[simp] theorem path_52:path 52=[false,true,false,true,false]:=by kernel_rfl
@[simp] theorem path_53:path 53=[true,false,false,true,false]:=by kernel_rfl
@[simp] theorem path_54:path 54=[false,false,false,true,false]:=by kernel_rfl
@[simp] theorem path_55:path 55=[true,true,true,false,false]:=by kernel_rfl
@[simp] theorem path_56:path 56=[false,true,true,false,false]:=by kernel_rfl
@[simp] theorem path_57:path 57=[true,false,true,false,false]:=by kernel_rfl
@[simp] theorem path_58:path 58=[false,false,true,false,false]:=by kernel_rfl
@[simp] theorem path_59:path 59=[true,true,false,false,false]:=by kernel_rfl
@[simp] theorem path_60:path 60=[false,true,false,false,false]:=by kernel_rfl
@[simp] theorem path_61:path 61=[true,false,false,false,false]:=by kernel_rfl
@[simp] theorem path_62:path 62=[false,false,false,false,false]:=by kernel_rfl
@[simp] theorem path_63:path 63=[true,true,true,true,true,true]:=by kernel_rfl
@[simp] theorem path_64:path 64=[false,true,true,true,true,true]:=by kernel_rfl
@[simp] theorem path_65:path 65=[true,false,true,true,true,true]:=by kernel_rfl
@[simp] theorem path_66:path 66=[false,false,true,true,true,true]:=by kernel_rfl
@[simp] theorem path_67:path 67=[true,true,false,true,true,true]:=by kernel_rfl
@[simp] theorem path_68:path 68=[false,true,false,true,true,true]:=by kernel_rfl
@[simp] theorem path_69:path 69=[true,false,false,true,true,true]:=by kernel_rfl
@[simp] theorem path_70:path 70=[false,false,false,true,true,true]:=by kernel_rfl
@[simp] theorem path_71:path 71=[true,true,true,false,true,true]:=by kernel_rfl
@[simp] theorem path_72:path 72=[false,true,true,false,true,true]:=by kernel_rfl
@[simp] theorem path_73:path 73=[true,false,true,false,true,true]:=by kernel_rfl
@[simp] theorem path_74:path 74=[false,false,true,false,true,true]:=by kernel_rfl
@[simp] theorem path_75:path 75=[true,true,false,false,true,true]:=by kernel_rfl
@[simp] theorem path_76:path 76=[false,true,false,false,true,true]:=by kernel_rfl
@[simp] theorem path_77:path 77=[true,false,false,false,true,true]:=by kernel_rfl
@[simp] theorem path_78:path 78=[false,false,false,false,true,true]:=by kernel_rfl
@[simp] theorem path_79:path 79=[true,true,true,true,false,true]:=by kernel_rfl
@[simp] theorem path_80:path 80=[false,true,true,true,false,true]:=by kernel_rfl
@[simp] theorem path_81:path 81=[true,false,true,true,false,true]:=by kernel_rfl
@[simp] theorem path_82:path 82=[false,false,true,true,false,true]:=by kernel_rfl
@[simp] theorem path_83:path 83=[true,true,false,true,false,true]:=by kernel_rfl
@[simp] theorem path_84:path 84=[false,true,false,true,false,true]:=by kernel_rfl
@[simp] theorem path_85:path 85=[true,false,false,true,false,true]:=by kernel_rfl
@[simp] theorem path_86:path 86=[false,false,false,true,false,true]:=by kernel_rfl
@[simp] theorem path_87:path 87=[true,true,true,false,false,true]:=by kernel_rfl
@[simp] theorem path_88:path 88=[false,true,true,false,false,true]:=by kernel_rfl
@[simp] theorem path_89:path 89=[true,false,true,false,false,true]:=by kernel_rfl
@[simp] theorem path_90:path 90=[false,false,true,false,false,true]:=by kernel_rfl
@[simp] theorem path_91:path 91=[true,true,false,false,false,true]:=by kernel_rfl
@[simp] theorem path_92:path 92=[false,true,false,false,false,true]:=by kernel_rfl
@[simp] theorem path_93:path 93=[true,false,false,false,false,true]:=by kernel_rfl
@[simp] theorem path_94:path 94=[false,false,false,false,false,true]:=by kernel_rfl
@[simp] theorem path_95:path 95=[true,true,true,true,true,false]:=by kernel_rfl
@[simp] theorem path_96:path 96=[false,true,true,true,true,false]:=by kernel_rfl
@[simp] theorem path_97:path 97=[true,false,true,true,true,false]:=by kernel_rfl
@[simp] theorem path_98:path 98=[false,false,true,true,true,false]:=by kernel_rfl
@[simp] theorem path_99:path 99=[true,true,false,true,true,false]:=by kernel_rfl
@[simp] theorem path_100:path 100=[false,true,false,true,true,false]:=by kernel_rfl
@[simp] theorem path_101:path 101=[true,false,false,true,true,false]:=by kernel_rfl
@[simp] theorem path_102:path 102=[false,false,false,true,true,false]:=by kernel_rfl
@[simp] theorem path_103:path 103=[true,true,true,false,true,false]:=by kernel_rfl
@[simp] theorem path_104:path 104=[false,true,true,false,true,false]:=by kernel_rfl
@[simp] theorem path_105:path 105=[true,false,true,false,true,false]:=by kernel_rfl
@[simp] theorem path_106:path 106=[false,false,true,false,true,false]:=by kernel_rfl
@[simp] theorem path_107:path 107=[true,true,false,false,true,false]:=by kernel_rfl
@[simp] theorem path_108:path 108=[false,true,false,false,true,false]:=by kernel_rfl
@[simp] theorem path_109:path 109=[true,false,false,false,true,false]:=by kernel_rfl
@[simp] theorem path_110:path 110=[false,false,false,false,true,false]:=by kernel_rfl
@[simp] theorem path_111:path 111=[true,true,true,true,false,false]:=by kernel_rfl
@[simp] theorem path_112:path 112=[false,true,true,true,false,false]:=by kernel_rfl
@[simp] theorem path_113:path 113=[true,false,true,true,false,false]:=by kernel_rfl
@[simp] theorem path_114:path 114=[false,false,true,true,false,false]:=by kernel_rfl
@[simp] theorem path_115:path 115=[true,true,false,true,false,false]:=by kernel_rfl
@[simp] theorem path_116:path 116=[false,true,false,true,false,false]:=by kernel_rfl
@[simp] theorem path_117:path 117=[true,false,false,true,false,false]:=by kernel_rfl
@[simp] theorem path_118:path 118=[false,false,false,true,false,false]:=by kernel_rfl
@[simp] theorem path_119:path 119=[true,true,true,false,false,false]:=by kernel_rfl
@[simp] theorem path_120:path 120=[false,true,true,false,false,false]:=by kernel_rfl
@[simp] theorem path_121:path 121=[true,false,true,false,false,false]:=by kernel_rfl
@[simp] theorem path_122:path 122=[false,false,true,false,false,false]:=by kernel_rfl
@[simp] theorem path_123:path 123=[true,true,false,false,false,false]:=by kernel_rfl
@[simp] theorem path_124:path 124=[false,true,false,false,false,false]:=by kernel_rfl
@[simp] theorem path_125:path 125=[true,false,false,false,false,false]:=by kernel_rfl
@[simp] theorem path_126:path 126=[false,false,false,false,false,false]:=by kernel_rfl
@[simp] theorem path_127:path 127=[true,true,true,true,true,true,true]:=by kernel_rfl
@[simp] theorem path_128:path 128=[false,true,true,true,true,true,true]:=by kernel_rfl
@[simp] theorem path_129:path 129=[true,false,true,true,true,true,true]:=by kernel_rfl
@[simp] theorem path_130:path 130=[false,false,true,true,true,true,true]:=by kernel_rfl
@[simp] theorem path_131:path 131=[true,true,false,true,true,true,true]:=by kernel_rfl
@[simp] theorem path_132:path 132=[false,true,false,true,true,true,true]:=by kernel_rfl
@[simp] theorem path_133:path 133=[true,false,false,true,true,true,true]:=by kernel_rfl
@[simp] theorem path_134:path 134=[false,false,false,true,true,true,true]:=by kernel_rfl
@[simp] theorem path_135:path 135=[true,true,true,false,true,true,true]:=by kernel_rfl
@[simp] theorem path_136:path 136=[false,true,true,false,true,true,true]:=by kernel_rfl
@[simp] theorem path_137:path 137=[true,false,true,false,true,true,true]:=by kernel_rfl
@[simp] theorem path_138:path 138=[false,false,true,false,true,true,true]:=by kernel_rfl
@[simp] theorem path_139:path 139=[true,true,false,false,true,true,true]:=by kernel_rfl
@[simp] theorem path_140:path 140=[false,true,false,false,true,true,true]:=by kernel_rfl
@[simp] theorem path_141:path 141=[true,false,false,false,true,true,true]:=by kernel_rfl
@[simp] theorem path_142:path 142=[false,false,false,false,true,true,true]:=by kernel_rfl
@[simp] theorem path_143:path 143=[true,true,true,true,false,true,true]:=by kernel_rfl
@[simp] theorem path_144:path 144=[false,true,true,true,false,true,true]:=by kernel_rfl
@[simp] theorem path_145:path 145=[true,false,true,true,false,true,true]:=by kernel_rfl
@[simp] theorem path_146:path 146=[false,false,true,true,false,true,true]:=by kernel_rfl
@[simp] theorem path_147:path 147=[true,true,false,true,false,true,true]:=by kernel_rfl
@[simp] theorem path_148:path 148=[false,true,false,true,false,true,true]:=by kernel_rfl
@[simp] theorem path_149:path 149=[true,false,false,true,false,true,true]:=by kernel_rfl
@[simp] theorem path_150:path 150=[false,false,false,true,false,true,true]:=by kernel_rfl
@[simp] theorem path_151:path 151=[true,true,true,false,false,true,true]:=by kernel_rfl
@[simp] theorem path_152:path 152=[false,true,true,false,false,true,true]:=by kernel_rfl
@[simp] theorem path_153:path 153=[true,false,true,false,false,true,true]:=by kernel_rfl
@[simp] theorem path_154:path 154=[false,false,true,false,false,true,true]:=by kernel_rfl
@[simp] theorem path_155:path 155=[true,true,false,false,false,true,true]:=by kernel_rfl
@[simp] theorem path_156:path 156=[false,true,false,false,false,true,true]:=by kernel_rfl
@[simp] theorem path_157:path 157=[true,false,false,false,false,true,true]:=by kernel_rfl
@[simp] theorem path_158:path 158=[false,false,false,false,false,true,true]:=by kernel_rfl
@[simp] theorem path_159:path 159=[true,true,true,true,true,false,true]:=by kernel_rfl
@[simp] theorem path_160:path 160=[false,true,true,true,true,false,true]:=by kernel_rfl
@[simp] theorem path_161:path 161=[true,false,true,true,true,false,true]:=by kernel_rfl
@[simp] theorem path_162:path 162=[false,false,true,true,true,false,true]:=by kernel_rfl
@[simp] theorem path_163:path 163=[true,true,false,true,true,false,true]:=by kernel_rfl
@[simp] theorem path_164:path 164=[false,true,false,true,true,false,true]:=by kernel_rfl
@[simp] theorem path_165:path 165=[true,false,false,true,true,false,true]:=by kernel_rfl
@[simp] theorem path_166:path 166=[false,false,false,true,true,false,true]:=by kernel_rfl
@[simp] theorem path_167:path 167=[true,true,true,false,true,false,true]:=by kernel_rfl
@[simp] theorem path_168:path 168=[false,true,true,false,true,false,true]:=by kernel_rfl
@[simp] theorem path_169:path 169=[true,false,true,false,true,false,true]:=by kernel_rfl
@[simp] theorem path_170:path 170=[false,false,true,false,true,false,true]:=by kernel_rfl
@[simp] theorem path_171:path 171=[true,true,false,false,true,false,true]:=by kernel_rfl
@[simp] theorem path_172:path 172=[false,true,false,false,true,false,true]:=by kernel_rfl
@[simp] theorem path_173:path 173=[true,false,false,false,true,false,true]:=by kernel_rfl
@[simp] theorem path_174:path 174=[false,false,false,false,true,false,true]:=by kernel_rfl
@[simp] theorem path_175:path 175=[true,true,true,true,false,false,true]:=by kernel_rfl
@[simp] theorem path_176:path 176=[false,true,true,true,false,false,true]:=by kernel_rfl
@[simp] theorem path_177:path 177=[true,false,true,true,false,false,true]:=by kernel_rfl
end Go.Ab
namespace Go.Ab
variable {cf:CallF} {T:PT AVal} {h:AHeap} {k₀:Ko}
@[simp] theorem step_bad :step (.bad ) cf T h k₀=(False):=(rfl)
@[simp] theorem step_move (x:Opd):step (.move x) cf T h k₀=(opk (retO h (x.get T)) k₀):=(rfl)
@[simp] theorem step_load1 (x:Opd):step (.load1 x) cf T h k₀=(opk (ob (x.get T) fun a=>onPtr a fun b off=>retO h (h.read1 b off)) k₀):=(rfl)
@[simp] theorem step_load (n:Nat) (x:Opd):step (.load n x) cf T h k₀=(opk (ob (x.get T) fun a=>onPtr a fun b off=>retO h (readAgg h n b off)) k₀):=(rfl)
@[simp] theorem step_pick (c:Opd) (a:Opd) (b:Opd):step (.pick c a b) cf T h k₀=(opk (retO h (ob (c.get T) fun t=>pickA T t a b)) k₀):=(rfl)
@[simp] theorem step_new (cs:List AVal):step (.new cs) cf T h k₀=(opk (ret (h.newCells cs) (.ptr h.next 0)) k₀):=(rfl)
@[simp] theorem step_box (x:Opd):step (.box x) cf T h k₀=(opk (ob (x.get T) fun v=>ret (h.newCells v.cells) (.ptr h.next 0)) k₀):=(rfl)
@[simp] theorem step_build (z:List AVal) (ps:List ((Nat×Nat)×Opd)):step (.build z ps) cf T h k₀=(opk (ob (fillA T ps z) fun cs=>ret h (.agg cs)) k₀):=(rfl)
@[simp] theorem step_buildSlice (len:Nat) (sz:Nat) (z:List AVal) (ps:List ((Nat×Nat)×Opd)):step (.buildSlice len sz z ps) cf T h k₀=(opk (ob (fillA T ps z) fun cs=>ret (h.newCells cs) (.slice h.next 0 len len sz)) k₀):=(rfl)
@[simp] theorem step_store (n:Nat) (a:Opd) (x:Opd):step (.store n a x) cf T h k₀=(opk (ob (a.get T) fun p=>ob (x.get T) fun v=>storeA n p v h) k₀):=(rfl)
@[simp] theorem step_nilCheck (x:Opd):step (.nilCheck x) cf T h k₀=(opk (retO h (ob (x.get T) nilCheckA)) k₀):=(rfl)
@[simp] theorem step_bin (op:BinOp) (t:EqT) (x:Opd) (y:Opd):step (.bin op t x y) cf T h k₀=(opk (retO h (ob (x.get T) fun a=>ob (y.get T) fun b=>binA h op t a b)) k₀):=(rfl)
@[simp] theorem step_un (op:UnOp) (x:Opd):step (.un op x) cf T h k₀=(opk (retO h (ob (x.get T) fun a=>unA op a)) k₀):=(rfl)
@[simp] theorem step_conv (c:Conv) (x:Opd):step (.conv c x) cf T h k₀=(opk (ob (x.get T) fun a=>convA c a h) k₀):=(rfl)
@[simp] theorem step_makeFunc (f:FuncId) (first:List Opd) (caps:List Opd):step (.makeFunc f first caps) cf T h k₀=(opk (ob (getAll T first) fun a=>ob (getAll T caps) fun c=>ret h (.func f a c)) k₀):=(rfl)
@[simp] theorem step_makeMap (kt:TypeId) (r:Option Opd):step (.makeMap kt r) cf T h k₀=(opk (makeMapA kt T h r) k₀):=(rfl)
@[simp] theorem step_makeSlice (sz:Nat) (z:List AVal) (l:Opd) (c:Opd):step (.makeSlice sz z l c) cf T h k₀=(opk (ob (l.get T) fun l=>ob (c.get T) fun c=>makeSliceA sz z l c h) k₀):=(rfl)
@[simp] theorem step_slice (k':SliceK) (x:Opd) (lo:Option Opd) (hi:Option Opd) (mx:Option Opd):step (.slice k' x lo hi mx) cf T h k₀=(opk (retO h (ob (x.get T) fun v=>ob (getOpt T lo) fun l=>ob (getOpt T hi) fun u=>ob (getOpt T mx) fun m=>sliceA k' v l u m h)) k₀):=(rfl)
@[simp] theorem step_fieldAddr (off:Nat) (x:Opd):step (.fieldAddr off x) cf T h k₀=(opk (ob (x.get T) fun a=>onPtr a fun b o=>ret h (.ptr b (o+off))) k₀):=(rfl)
@[simp] theorem step_part (s:Shape) (off:Nat) (x:Opd):step (.part s off x) cf T h k₀=(opk (retO h (ob (x.get T) fun a=>onAgg a fun cs=>partA s cs off)) k₀):=(rfl)
@[simp] theorem step_indexAddrS (sz:Nat) (x:Opd) (i:Opd):step (.indexAddrS sz x i) cf T h k₀=(opk (retO h (ob (x.get T) fun a=>ob (i.get T) fun b=>indexAddrS sz a b)) k₀):=(rfl)
@[simp] theorem step_indexAddrA (len:Nat) (sz:Nat) (x:Opd) (i:Opd):step (.indexAddrA len sz x i) cf T h k₀=(opk (retO h (ob (x.get T) fun a=>ob (i.get T) fun b=>indexAddrA len sz a b)) k₀):=(rfl)
@[simp] theorem step_indexA (s:Shape) (len:Nat) (sz:Nat) (x:Opd) (i:Opd):step (.indexA s len sz x i) cf T h k₀=(opk (retO h (ob (x.get T) fun a=>ob (i.get T) fun b=>indexA s len sz a b)) k₀):=(rfl)
@[simp] theorem step_indexS (x:Opd) (i:Opd):step (.indexS x i) cf T h k₀=(opk (retO h (ob (x.get T) fun a=>ob (i.get T) fun b=>indexS a b)) k₀):=(rfl)
@[simp] theorem step_lookup (K:KeyT) (z:AVal) (ok:Bool) (m:Opd) (k':Opd):step (.lookup K z ok m k') cf T h k₀=(opk (retO h (ob (m.get T) fun a=>ob (k'.get T) fun b=>lookupA K z ok a b h)) k₀):=(rfl)
@[simp] theorem step_update (K:KeyT) (m:Opd) (k':Opd) (x:Opd):step (.update K m k' x) cf T h k₀=(opk (ob (m.get T) fun a=>ob (k'.get T) fun b=>ob (x.get T) fun v=>updateA K a b v h) k₀):=(rfl)
@[simp] theorem step_range (x:Opd):step (.range x) cf T h k₀=(opk (ob (x.get T) fun a=>onStr a fun s=>ret (h.new (.siter 0 s)) (.ptr h.next 0)) k₀):=(rfl)
@[simp] theorem step_next (x:Opd):step (.next x) cf T h k₀=(opk (ob (x.get T) fun a=>nextA a h) k₀):=(rfl)
@[simp] theorem step_extract (x:Opd) (i:Nat):step (.extract x i) cf T h k₀=(opk (retO h (ob (x.get T) fun a=>onTup a fun vs=>listGet vs i)) k₀):=(rfl)
@[simp] theorem step_call (f:Opd) (args:List Opd):step (.call f args) cf T h k₀=(obP (f.get T) fun g=>obP (getAll T args) fun as=>callV cf g as h k₀):=(rfl)
@[simp] theorem step_callF (f:FuncId) (args:List Opd):step (.callF f args) cf T h k₀=(obP (getAll T args) fun as=>callA cf f as h k₀):=(rfl)
@[simp] theorem step_len (k':LenK) (x:Opd):step (.len k' x) cf T h k₀=(opk (retO h (ob (x.get T) fun a=>lenA k' a h)) k₀):=(rfl)
@[simp] theorem step_append (sz:Nat) (s:Opd) (x:Opd):step (.append sz s x) cf T h k₀=(opk (ob (s.get T) fun a=>ob (x.get T) fun b=>appendA h sz a b) k₀):=(rfl)
@[simp] theorem step_minmax (less:Bool) (x:Opd) (y:Opd):step (.minmax less x y) cf T h k₀=(opk (retO h (ob (x.get T) fun a=>ob (y.get T) fun b=>onInt a fun k m=>onInt b fun k' n=>bi (sameK k k') (some (.int k (bi less (bi (ltI n m) n m) (bi (ltI m n) n m)))) none)) k₀):=(rfl)
@[simp] theorem step_copy (sz:Nat) (d:Opd) (x:Opd):step (.copy sz d x) cf T h k₀=(opk (ob (d.get T) fun a=>ob (x.get T) fun b=>copyA h sz a b) k₀):=(rfl)
@[simp] theorem step_clear (sz:Nat) (z:List AVal) (x:Opd):step (.clear sz z x) cf T h k₀=(opk (ob (x.get T) fun a=>clearA h sz z a) k₀):=(rfl)
@[simp] theorem step_delete (K:KeyT) (m:Opd) (x:Opd):step (.delete K m x) cf T h k₀=(opk (ob (m.get T) fun a=>ob (x.get T) fun b=>deleteA K a b h) k₀):=(rfl)
@[simp] theorem step_rangeM (x:Opd):step (.rangeM x) cf T h k₀=(opk (ob (x.get T) fun a=>rangeMA a h) k₀):=(rfl)
@[simp] theorem step_nextM (x:Opd):step (.nextM x) cf T h k₀=(obP (x.get T) fun a=>nextMA a h k₀):=(rfl)
@[simp] theorem step_mapEntry (K:KeyT) (z:AVal) (m:Opd) (k':Opd):step (.mapEntry K z m k') cf T h k₀=(opk (ob (m.get T) fun a=>ob (k'.get T) fun b=>mapEntryA K z a b h) k₀):=(rfl)
@[simp] theorem step_entryStore (m:Opd) (s:Opd) (x:Opd):step (.entryStore m s x) cf T h k₀=(opk (ob (m.get T) fun a=>ob (s.get T) fun b=>ob (x.get T) fun v=>entryStoreA a b v h) k₀):=(rfl)
@[simp] theorem step_entry (x:Opd):step (.entry x) cf T h k₀=(opk (ob (x.get T) fun a=>entryA a h) k₀):=(rfl)
end Go.Ab
