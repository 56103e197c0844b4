/- Part 3 of the proof of Rows.AutoTwoUptoCardSaid (the conditions: those of the given row alone). Laid by program (pack.py) out of the texts in wip/, remarks left out. -/
import Derived.Test.YtnaccglcbfeenaaGreatDoorT2
set_option linter.unusedSimpArgs false
set_option linter.unusedVariables false
set_option maxHeartbeats 1000000
namespace Go.Ab
section
variable {h:AHeap} {cs:List AVal} {b i n:Nat}
@[simp] theorem next_newCells (h:AHeap) (cs:List AVal):(h.newCells cs).next=h.next+1:=(rfl)
theorem get_newCells (h:AHeap) (cs:List AVal) (b:Nat):(h.newCells cs).get b=if h.next=b then some (.cells cs.length (ofList cs) 0) else h.get b:=by
 unfold AHeap.newCells;rw [AHeap.get_new]
theorem read1_newCells (h:AHeap) (cs:List AVal) (i:Nat):(h.newCells cs).read1 h.next i=cs[i]?:=by
 unfold AHeap.read1
 rw [get_newCells,if_pos rfl]
 simp only [ob_some,onCells_c,nble,bi_eq,get_ofList]
 split
 ·rfl
 ·rename_i hi;simp at hi;rw [List.getElem?_eq_none (by omega)]
theorem read1_newCells_ne (hb:b≠h.next):(h.newCells cs).read1 b i=h.read1 b i:=by
 unfold AHeap.read1
 rw [get_newCells,if_neg (fun e=>hb e.symm)]
theorem readCells_ofList (cs:List AVal):∀ (n i:Nat),i+n<=cs.length->readCells (ofList cs) n i=some ((cs.drop i).take n)
 | 0,i,_=>by rw [List.take_zero];rfl
 | n+1,i,hi=>by
  show ob ((ofList cs).get (path i)) (fun v=>ob (readCells (ofList cs) n (i+1)) fun vs=>some (v :: vs))=_
  rw [get_ofList,readCells_ofList cs n (i+1) (by omega),List.getElem?_eq_getElem (by omega)]
  simp only [ob_some]
  rw [List.drop_eq_getElem_cons (by omega:i < cs.length),List.take_succ_cons]
theorem read_newCells (h:AHeap) (cs:List AVal) (off n:Nat) (hn:off+n<=cs.length):(h.newCells cs).read h.next off n=some ((cs.drop off).take n):=by
 unfold AHeap.read
 rw [get_newCells,if_pos rfl]
 simp only [ob_some,onCells_c,nble,hn,decide_true,bi_true]
 exact readCells_ofList cs n off hn
theorem read_newCells_ne (hb:b≠h.next):(h.newCells cs).read b i n=h.read b i n:=by
 unfold AHeap.read
 rw [get_newCells,if_neg (fun e=>hb e.symm)]
@[simp] theorem read1_new_eq (hb:b=h.next):(h.newCells cs).read1 b i=cs[i]?:=by subst hb;exact read1_newCells h cs i
@[simp] theorem read1_new_ne (hb:b≠h.next):(h.newCells cs).read1 b i=h.read1 b i:=read1_newCells_ne hb
@[simp] theorem read_new_eq (hb:b=h.next) (hn:i+n<=cs.length):(h.newCells cs).read b i n=some ((cs.drop i).take n):=by subst hb;exact read_newCells h cs i n hn
@[simp] theorem read_new_ne (hb:b≠h.next):(h.newCells cs).read b i n=h.read b i n:=read_newCells_ne hb
theorem Hle.newCells (w:WF h) (cs:List AVal):Hle h (h.newCells cs):=Hle.new w _
theorem WF.newCells (w:WF h) (cs:List AVal):WF (h.newCells cs):=WF.new w _
end
def Var (h:AHeap) (b:Nat) (cs:List AVal):Prop:=∃ a,h.get b=some (.cells cs.length a 0)/\∀ i c,cs[i]?=some c->a.get (path i)=some c
section
variable {h h':AHeap} {b i n:Nat} {cs:List AVal} {c:AVal}
theorem Var.new (h:AHeap) (cs:List AVal):Var (h.newCells cs) h.next cs:=⟨ofList cs,by rw [get_newCells,if_pos rfl],fun i c e=>by rw [get_ofList];exact e⟩
theorem Var.mono (v:Var h b cs) (k:Hle h h'):Var h' b cs:=let ⟨a,e,r⟩:=v;⟨a,k.get _ _ e,r⟩
theorem Var.keep (v:Var h b cs) (k:h'.get b=h.get b):Var h' b cs:=let ⟨a,e,r⟩:=v;⟨a,k.trans e,r⟩
theorem Var.lt (v:Var h b cs) (w:WF h):b < h.next:=let ⟨_,e,_⟩:=v;w.lt e
theorem Var.rd1 (v:Var h b cs) (e:cs[i]?=some c):h.read1 b i=some c:=by
 obtain ⟨a,g,r⟩:=v
 have hi:i < cs.length:=(List.getElem?_eq_some_iff.1 e).1
 unfold AHeap.read1
 rw [g]
 simp only [ob_some,onCells_c,nble]
 rw [decide_eq_true (by omega:i+1<=cs.length)]
 exact r i c e
theorem readCells_of {a:PT AVal}:∀ (n i:Nat) (cs:List AVal),cs.length=n->(∀ j c,cs[j]?=some c->a.get (path (i+j))=some c)->readCells a n i=some cs
 | 0,i,cs,hl,_=>by
  have:cs=[]:=List.length_eq_zero_iff.1 hl
  subst this;rfl
 | n+1,i,[],hl,_=>by simp at hl
 | n+1,i,c :: cs,hl,h=>by
  show ob (a.get (path i)) (fun v=>ob (readCells a n (i+1)) fun vs=>some (v :: vs))=_
  rw [show a.get (path i)=some c from h 0 c rfl,readCells_of n (i+1) cs (by simpa using hl) fun j d e=>by
   have:=h (j+1) d (by simpa using e)
   rw [<-this];congr 2;omega]
  rfl
theorem Var.rd (v:Var h b cs) {off:Nat} {l:List AVal} (hl:off+n<=cs.length) (e:(cs.drop off).take n=l):h.read b off n=some l:=by
 obtain ⟨a,g,r⟩:=v
 subst e
 unfold AHeap.read
 rw [g]
 simp only [ob_some,onCells_c,nble,hl,decide_true,bi_true]
 refine readCells_of n off _ (by simp;omega) fun j c hc=>r _ _ ?_
 rw [List.getElem?_take] at hc
 split at hc
 ·rw [List.getElem?_drop] at hc;exact hc
 ·cases hc
theorem Var.all (v:Var h b cs) {n:Nat} (hn:n=cs.length):h.read b 0 n=some cs:=by
 subst hn
 exact v.rd (off:=0) (n:=cs.length) (by omega) (by simp)
theorem Var.write (v:Var h b cs) {off:Nat} {vs:List AVal} (hl:off+vs.length<=cs.length) (ho:allOne vs=true) :
  ∃ h',h.write b off vs=some h'/\Var h' b (cs.take off++vs++cs.drop (off+vs.length))/\h'.next=h.next/\∀ j,j≠b->h'.get j=h.get j:=by
 obtain ⟨a,g,r⟩:=v
 refine ⟨h.set b (.cells cs.length (setCells vs off a) 0),?_,⟨setCells vs off a,?_,fun i c e=>?_⟩,rfl,fun j hj=>?_⟩
 ·unfold AHeap.write
  rw [g]
  simp only [ob_some,onCells_c,nble,ho,hl,decide_true,bi_true]
  rfl
 ·rw [AHeap.get_set,if_pos rfl];congr 2;simp;omega
 ·rw [get_setCells]
  split
  ·rename_i h1
   rw [List.getElem?_append_left (by simp;omega),List.getElem?_append_right (by simp;omega)] at e
   rw [<-e];congr 1;simp;omega
  ·rename_i h1
   by_cases h2:i < off
   ·rw [List.append_assoc,List.getElem?_append_left (by simp;omega),List.getElem?_take,if_pos h2] at e
    exact r i c e
   ·rw [List.getElem?_append_right (by simp;omega),List.getElem?_drop] at e
    refine r i c ?_
    rw [<-e];congr 1;simp;omega
 ·rw [AHeap.get_set,if_neg (fun e=>hj e.symm)]
end
noncomputable def rowB (v:AVal):Nat:=AVal.rec (motive_1:=fun _=>Nat) (motive_2:=fun _=>PUnit) (fun _=>0) (fun _ _=>0) (fun _=>0) 0 (fun _ _=>0) 0 (fun b _ _ _ _=>b) 0 (fun _=>0) 0 (fun _ _ _ _ _=>0) 0 (fun _ _ _=>0) (fun _ _=>0) (fun _ _=>0) PUnit.unit (fun _ _ _ _=>PUnit.unit) v
noncomputable def rowO (v:AVal):Nat:=AVal.rec (motive_1:=fun _=>Nat) (motive_2:=fun _=>PUnit) (fun _=>0) (fun _ _=>0) (fun _=>0) 0 (fun _ _=>0) 0 (fun _ o _ _ _=>o) 0 (fun _=>0) 0 (fun _ _ _ _ _=>0) 0 (fun _ _ _=>0) (fun _ _=>0) (fun _ _=>0) PUnit.unit (fun _ _ _ _=>PUnit.unit) v
@[simp] theorem rowB_s (b o l c z:Nat):rowB (.slice b o l c z)=b:=(rfl)
@[simp] theorem rowO_s (b o l c z:Nat):rowO (.slice b o l c z)=o:=(rfl)
def At (h:AHeap) (b off sz:Nat) (ls:List (List AVal)):Prop:=∃ n a m,h.get b=some (.cells n a m)/\off+ls.length*sz<=n/\∀ i l,ls[i]?=some l->∀ f c,l[f]?=some c->a.get (path (off+i*sz+f))=some c
def Row (h:AHeap) (sz:Nat) (v:AVal) (ls:List (List AVal)):Prop :=
 (∀ l∈ls,l.length=sz)/\((v=.nils/\ls=[])\/∃ b off cap,v=.slice b off ls.length cap sz/\ls.length<=cap/\At h b off sz ls)
section
variable {h h':AHeap} {sz:Nat} {v:AVal} {ls:List (List AVal)} {i f:Nat} {l:List AVal} {c:AVal}
theorem At.mono {b off:Nat} (r:At h b off sz ls) (k:Hle h h'):At h' b off sz ls:=let ⟨n,a,m,e,r⟩:=r;⟨n,a,m,k.get _ _ e,r⟩
theorem At.keep {b off:Nat} (r:At h b off sz ls) (k:h'.get b=h.get b):At h' b off sz ls:=let ⟨n,a,m,e,r⟩:=r;⟨n,a,m,k.trans e,r⟩
theorem Row.mono (r:Row h sz v ls) (k:Hle h h'):Row h' sz v ls :=
 ⟨r.1,r.2.imp id fun ⟨b,off,cap,e1,e2,q⟩=>⟨b,off,cap,e1,e2,q.mono k⟩⟩
theorem Row.keep (r:Row h sz v ls) (k:h'.get (rowB v)=h.get (rowB v)):Row h' sz v ls :=
 ⟨r.1,r.2.imp id fun ⟨b,off,cap,e1,e2,q⟩=>⟨b,off,cap,e1,e2,q.keep (by rw [e1] at k;exact k)⟩⟩
theorem Row.lt (r:Row h sz v ls) (w:WF h) (hne:ls≠[]):rowB v < h.next:=by
 obtain ⟨_,⟨_,e⟩ | ⟨b,off,cap,rfl,_,n,a,m,e,_⟩⟩:=r
 ·exact absurd e hne
 ·exact w.lt e
theorem Row.nil (h:AHeap) (sz:Nat):Row h sz .nils []:=⟨fun l k=>(by cases k),.inl ⟨rfl,rfl⟩⟩
theorem Row.len (r:Row h sz v ls) (h':AHeap):lenA .row v h'=some (.int .i64 (ls.length:Int)):=by
 obtain ⟨_,⟨rfl,rfl⟩ | ⟨b,off,cap,rfl,_⟩⟩:=r
 ·rfl
 ·rfl
theorem Row.idx (r:Row h sz v ls) (hi:i < ls.length) (k:IntKind):indexAddrS sz v (.int k (i:Int))=some (.ptr (rowB v) (rowO v+i*sz)):=by
 obtain ⟨_,⟨rfl,rfl⟩ | ⟨b,off,cap,rfl,_⟩⟩:=r
 ·simp at hi
 ·simp [indexAddrS,Nat.succ_le_iff,hi]
theorem Row.at (r:Row h sz v ls) (hne:ls≠[]):At h (rowB v) (rowO v) sz ls:=by
 obtain ⟨_,⟨_,e⟩ | ⟨b,off,cap,rfl,_,q⟩⟩:=r
 ·exact absurd e hne
 ·exact q
theorem Row.rd1 (r:Row h sz v ls) (h1:ls[i]?=some l) (h2:l[f]?=some c):h.read1 (rowB v) (rowO v+i*sz+f)=some c:=by
 have hi:i < ls.length:=(List.getElem?_eq_some_iff.1 h1).1
 have hf:f < l.length:=(List.getElem?_eq_some_iff.1 h2).1
 have hl:=r.1 l (List.mem_of_getElem? h1)
 obtain ⟨n,a,m,e,hn,q⟩:=r.at (by intro e;subst e;simp at hi)
 unfold AHeap.read1
 rw [e]
 have:i*sz+sz<=ls.length*sz:=by rw [<-Nat.succ_mul];exact Nat.mul_le_mul_right _ hi
 simp only [ob_some,onCells_c,nble]
 rw [decide_eq_true (by omega)]
 exact q i l h1 f c h2
theorem Row.rd1_0 (r:Row h sz v ls) (h1:ls[i]?=some l) (h2:l[0]?=some c):h.read1 (rowB v) (rowO v+i*sz)=some c:=r.rd1 h1 h2
theorem Row.rd (r:Row h sz v ls) (h1:ls[i]?=some l):h.read (rowB v) (rowO v+i*sz) sz=some l:=by
 have hi:i < ls.length:=(List.getElem?_eq_some_iff.1 h1).1
 have hl:=r.1 l (List.mem_of_getElem? h1)
 obtain ⟨n,a,m,e,hn,q⟩:=r.at (by intro e;subst e;simp at hi)
 unfold AHeap.read
 rw [e]
 have:i*sz+sz<=ls.length*sz:=by rw [<-Nat.succ_mul];exact Nat.mul_le_mul_right _ hi
 simp only [ob_some,onCells_c,nble]
 rw [decide_eq_true (by omega),bi_true]
 exact readCells_of _ _ _ hl fun j c e=>q i l h1 j c e
end
def Row1 (h:AHeap) (v:AVal) (cs:List AVal):Prop:=Row h 1 v (cs.map fun c=>[c])
section
variable {h h':AHeap} {v:AVal} {cs:List AVal} {i:Nat} {c:AVal}
theorem Row1.mono (r:Row1 h v cs) (k:Hle h h'):Row1 h' v cs:=Row.mono r k
theorem Row1.len (r:Row1 h v cs) (h':AHeap):lenA .row v h'=some (.int .i64 (cs.length:Int)):=by have:=Row.len r h';simpa using this
theorem Row1.idx (r:Row1 h v cs) (hi:i < cs.length) (k:IntKind):indexAddrS 1 v (.int k (i:Int))=some (.ptr (rowB v) (rowO v+i)):=by
 have:=Row.idx r (i:=i) (by simpa using hi) k;simpa using this
theorem Row1.rd (r:Row1 h v cs) (e:cs[i]?=some c):h.read1 (rowB v) (rowO v+i)=some c:=by
 have:=Row.rd1 r (i:=i) (l:=[c]) (f:=0) (c:=c) (by simp [e]) rfl
 simpa using this
end
@[simp] theorem ofList_eq (cs:List AVal):ofList cs=setCells cs 0 .leaf:=(rfl)
attribute [simp] setCells_nil setCells_cons
@[simp] theorem treeOf_nil:treeOf []=.leaf:=(rfl)
@[simp] theorem treeOf_cons (p:Nat×AVal) (l:Slots):treeOf (p :: l)=(treeOf l).put (some p.2) (path p.1):=(rfl)
@[simp] theorem has_nil (T:PT AVal):Has T []=True:=(rfl)
@[simp] theorem has_cons (T:PT AVal) (p:Nat×AVal) (l:Slots):Has T (p :: l)=(T.get (path p.1)=some p.2/\Has T l):=(rfl)
@[simp] theorem oneOr_1 (v:AVal):oneOr [v]=v:=(rfl)
@[simp] theorem cells_int (k:IntKind) (n:Int):(AVal.int k n).cells=[.int k n]:=(rfl)
@[simp] theorem cells_bool (b:Bool):(AVal.bool b).cells=[.bool b]:=(rfl)
@[simp] theorem cells_str (b:List UInt8):(AVal.str b).cells=[.str b]:=(rfl)
@[simp] theorem cells_ptr (b o:Nat):(AVal.ptr b o).cells=[.ptr b o]:=(rfl)
@[simp] theorem cells_map (b:Nat):(AVal.map b).cells=[.map b]:=(rfl)
@[simp] theorem cells_slice (b o l c z:Nat):(AVal.slice b o l c z).cells=[.slice b o l c z]:=(rfl)
@[simp] theorem cells_nils:AVal.nils.cells=[.nils]:=(rfl)
@[simp] theorem cells_nilm:AVal.nilm.cells=[.nilm]:=(rfl)
@[simp] theorem cells_func (f:FuncId) (x y:List AVal):(AVal.func f x y).cells=[.func f x y]:=(rfl)
@[simp] theorem cells_agg (cs:List AVal):(AVal.agg cs).cells=cs:=(rfl)
theorem Row.cells {h:AHeap} {sz:Nat} {v:AVal} {ls:List (List AVal)} (r:Row h sz v ls):v.cells=[v]:=by
 obtain ⟨_,⟨rfl,_⟩ | ⟨b,off,cap,rfl,_⟩⟩:=r<;>rfl
section
variable (rs:List PResult) (k:Post) (T:PT AVal) (h:AHeap)
@[simp] theorem finish_eq:finish rs k T h=obP (resultsA T h rs) fun vs=>k (oneOr vs) h:=(rfl)
@[simp] theorem resultsA_nil:resultsA T h []=some []:=(rfl)
@[simp] theorem resultsA_cons (r:PResult):resultsA T h (r :: rs)=ob (result T h r) fun v=>ob (resultsA T h rs) fun vs=>some (v :: vs):=(rfl)
@[simp] theorem result_tmp (n:List Bool):result T h (.tmp n)=T.get n:=(rfl)
@[simp] theorem result_cell (n:List Bool) (s:Shape):result T h (.cell n s)=ob (T.get n) fun a=>onPtr a fun b off=>readVar h s b off:=(rfl)
end
@[simp] theorem readVar_one (h:AHeap) (b off:Nat):readVar h .one b off=h.read1 b off:=(rfl)
@[simp] theorem readVar_agg (h:AHeap) (n b off:Nat):readVar h (.agg n) b off=readAgg h n b off:=(rfl)
@[simp] theorem readAgg_eq (h:AHeap) (n b off:Nat):readAgg h n b off=ob (h.read b off n) fun cs=>some (.agg cs):=(rfl)
theorem loop_intro {σ:Type} (I:σ->AHeap->Prop) (sl:σ->Slots) (μ:σ->Nat) (s:σ) {B:Kn->Kn} {T:PT AVal} {h:AHeap} (hT:Has T (sl s)) (hI:I s h)
  (H:∀ s h,I s h->B (fun T' h'=>∃ s',μ s' < μ s/\Has T' (sl s')/\I s' h') (treeOf (sl s)) h):lpI B T h:=⟨σ,I,sl,μ,s,hT,hI,H⟩
end Go.Ab
namespace Go.Ab
def Blk (h:AHeap) (b:Nat) (cs:List AVal):Prop:=∃ a m,h.get b=some (.cells cs.length a m)/\m<=1/\∀ i c,cs[i]?=some c->a.get (path i)=some c
structure But (b:Nat) (h h':AHeap):Prop where
 next:h'.next=h.next
 get:∀ j,j≠b->h'.get j=h.get j
section
variable {h h':AHeap} {b i n:Nat} {cs:List AVal} {c:AVal}
theorem Blk.new (h:AHeap) (cs:List AVal):Blk (h.newCells cs) h.next cs:=⟨ofList cs,0,by rw [get_newCells,if_pos rfl],by omega,fun i c e=>by rw [get_ofList];exact e⟩
theorem Blk.mono (v:Blk h b cs) (k:Hle h h'):Blk h' b cs:=let ⟨a,m,e,r⟩:=v;⟨a,m,k.get _ _ e,r⟩
theorem Blk.keep (v:Blk h b cs) (k:h'.get b=h.get b):Blk h' b cs:=let ⟨a,m,e,r⟩:=v;⟨a,m,k.trans e,r⟩
theorem Blk.lt (v:Blk h b cs) (w:WF h):b < h.next:=let ⟨_,_,e,_⟩:=v;w.lt e
theorem Blk.rd1 (v:Blk h b cs) (e:cs[i]?=some c):h.read1 b i=some c:=by
 obtain ⟨a,m,g,_,r⟩:=v
 have hi:i < cs.length:=(List.getElem?_eq_some_iff.1 e).1
 unfold AHeap.read1
 rw [g]
 simp only [ob_some,onCells_c,nble]
 rw [decide_eq_true (by omega:i+1<=cs.length)]
 exact r i c e
theorem Blk.rd (v:Blk h b cs) {off:Nat} {l:List AVal} (hl:off+n<=cs.length) (e:(cs.drop off).take n=l):h.read b off n=some l:=by
 obtain ⟨a,m,g,_,r⟩:=v
 subst e
 unfold AHeap.read
 rw [g]
 simp only [ob_some,onCells_c,nble,hl,decide_true,bi_true]
 refine readCells_of n off _ (by simp;omega) fun j c hc=>r _ _ ?_
 rw [List.getElem?_take] at hc
 split at hc
 ·rw [List.getElem?_drop] at hc;exact hc
 ·cases hc
theorem Blk.write (v:Blk h b cs) {off:Nat} {vs:List AVal} (hl:off+vs.length<=cs.length) (ho:allOne vs=true) :
  ∃ h',h.write b off vs=some h'/\Blk h' b (cs.take off++vs++cs.drop (off+vs.length))/\But b h h':=by
 obtain ⟨a,m,g,hm,r⟩:=v
 refine ⟨h.set b (.cells cs.length (setCells vs off a) m),?_,⟨setCells vs off a,m,?_,hm,fun i c e=>?_⟩,⟨rfl,fun j hj=>?_⟩⟩
 ·unfold AHeap.write
  rw [g]
  simp only [ob_some,onCells_c,nble,ho,hl,hm,decide_true,bi_true,Bool.and_true]
 ·rw [AHeap.get_set,if_pos rfl];congr 2;simp;omega
 ·rw [get_setCells]
  split
  ·rename_i h1
   rw [List.getElem?_append_left (by simp;omega),List.getElem?_append_right (by simp;omega)] at e
   rw [<-e];congr 1;simp;omega
  ·rename_i h1
   by_cases h2:i < off
   ·rw [List.append_assoc,List.getElem?_append_left (by simp;omega),List.getElem?_take,if_pos h2] at e
    exact r i c e
   ·rw [List.getElem?_append_right (by simp;omega),List.getElem?_drop] at e
    refine r i c ?_
    rw [<-e];congr 1;simp;omega
 ·rw [AHeap.get_set,if_neg (fun e=>hj e.symm)]
theorem Blk.write1 (v:Blk h b cs) (hi:i < cs.length) (ho:oneA c=true):∃ h',h.write b i [c]=some h'/\Blk h' b (cs.set i c)/\But b h h':=by
 obtain ⟨h',h1,h2,h3⟩:=v.write (off:=i) (vs:=[c]) (by simp;omega) (by show bi (oneA c) true false=true;rw [ho];rfl)
 refine ⟨h',h1,?_,h3⟩
 have e:cs.take i++[c]++cs.drop (i+[c].length)=cs.set i c:=by rw [List.set_eq_take_append_cons_drop,if_pos hi];simp
 rw [e] at h2;exact h2
theorem But.wf (k:But b h h') (w:WF h) (hb:b < h.next):WF h':=fun id hid=>by
 have:=k.next
 rw [k.get id (by omega)];exact w id (by omega)
theorem But.refl (b:Nat) (h:AHeap):But b h h:=⟨rfl,fun _ _=>rfl⟩
theorem But.trans {h₁ h₂:AHeap} (k:But b h h₁) (k':But b h₁ h₂):But b h h₂:=⟨k'.next.trans k.next,fun j hj=>(k'.get j hj).trans (k.get j hj)⟩
theorem But.hle {h₀:AHeap} (k:But b h h') (le:Hle h₀ h) (w:WF h₀) (hb:h₀.next<=b):Hle h₀ h':=⟨by rw [k.next];exact le.next,fun j x e=>by
 have:=w.lt e
 rw [k.get j (by omega)];exact le.get _ _ e⟩
theorem Blk.row1 (v:Blk h b cs) {cap:Nat} (hc:cs.length<=cap):Row1 h (.slice b 0 cs.length cap 1) cs:=by
 obtain ⟨a,m,g,hm,r⟩:=v
 refine ⟨fun l hl=>by obtain ⟨c,_,rfl⟩:=List.mem_map.1 hl;rfl,.inr ⟨b,0,cap,by simp,by simpa using hc,cs.length,a,m,g,by simp,fun i l hl f c hf=>?_⟩⟩
 rw [List.getElem?_map] at hl
 cases he:cs[i]? with
 | none=>rw [he] at hl;cases hl
 | some d =>
  rw [he] at hl;cases hl
  cases f with
  | zero=>simp at hf;subst hf;simpa using r i d he
  | succ f=>simp at hf
theorem Blk.row {sz:Nat} {ls:List (List AVal)} (v:Blk h b ls.flatten) (hs:∀ l∈ls,l.length=sz) {cap:Nat} (hc:ls.length<=cap):Row h sz (.slice b 0 ls.length cap sz) ls:=by
 obtain ⟨a,m,g,hm,r⟩:=v
 have hlen:∀ ls:List (List AVal),(∀ l∈ls,l.length=sz)->ls.flatten.length=ls.length*sz:=by
  intro ls h
  induction ls with
  | nil=>simp
  | cons l ls ih=>simp only [List.flatten_cons,List.length_append,List.length_cons];rw [ih fun l hl=>h l (by simp [hl]),h l (by simp)];rw [Nat.succ_mul];omega
 have hget:∀ (ls:List (List AVal)),(∀ l∈ls,l.length=sz)->∀ i l,ls[i]?=some l->∀ f c,l[f]?=some c->ls.flatten[i*sz+f]?=some c:=by
  intro ls h
  induction ls with
  | nil=>intro i l hl;simp at hl
  | cons l0 ls ih =>
   intro i l hl f c hf
   have h0:=h l0 (by simp)
   cases i with
   | zero =>
    simp at hl;subst hl
    rw [List.flatten_cons,List.getElem?_append_left (by have:=(List.getElem?_eq_some_iff.1 hf).1;omega)]
    simpa using hf
   | succ i =>
    rw [List.flatten_cons,List.getElem?_append_right (by rw [h0,Nat.succ_mul];omega),h0]
    have:=ih (fun l hl=>h l (by simp [hl])) i l (by simpa using hl) f c hf
    rw [<-this];congr 1;rw [Nat.succ_mul];omega
 refine ⟨hs,.inr ⟨b,0,cap,rfl,hc,ls.flatten.length,a,m,g,by rw [hlen ls hs];omega,fun i l hl f c hf=>?_⟩⟩
 have:=r _ _ (hget ls hs i l hl f c hf)
 rw [<-this];congr 2;omega
theorem repeatL_one (z:AVal):∀ n,repeatL [z] n=List.replicate n z
 | 0=>rfl
 | n+1=>by show [z]++repeatL [z] n=_;rw [repeatL_one z n];rfl
theorem storeA_ptr (n b off:Nat) (x:AVal) (h:AHeap):storeA n (.ptr b off) x h=bi (Nat.beq x.cells.length n) (ob (h.write b off x.cells) fun h'=>some (none,h')) none:=rfl
attribute [simp] storeA_ptr
@[simp] theorem makeSliceA_eq (sz:Nat) (z:List AVal) (l c:Nat) (h:AHeap):makeSliceA sz z (.int .i64 (l:Int)) (.int .i64 (c:Int)) h =
  bi (Nat.ble l c && Nat.ble c 16777216) (some (some (.slice h.next 0 l c sz),h.newCells (repeatL z c))) none:=(rfl)
end
section
variable {κ ν:Type} [DecidableEq κ]
def aget:List (κ×ν)->κ->Option ν
 | [],_=>none
 | p :: m,a=>if a=p.1 then some p.2 else aget m a
def aput:List (κ×ν)->κ->ν->List (κ×ν)
 | [],a,v=>[(a,v)]
 | p :: m,a,v=>if a=p.1 then (a,v) :: m else p :: aput m a v
theorem aget_cons (p:κ×ν) (m:List (κ×ν)) (a:κ):aget (p :: m) a=if a=p.1 then some p.2 else aget m a:=rfl
theorem aput_cons (p:κ×ν) (m:List (κ×ν)) (a:κ) (v:ν):aput (p :: m) a v=if a=p.1 then (a,v) :: m else p :: aput m a v:=rfl
theorem aget_aput (m:List (κ×ν)) (a b:κ) (v:ν):aget (aput m a v) b=if b=a then some v else aget m b:=by
 induction m with
 | nil=>simp [aput,aget]
 | cons p m ih =>
  rw [aput_cons]
  by_cases h:a=p.1
  ·rw [if_pos h,aget_cons,aget_cons]
   by_cases hb:b=a
   ·simp [hb]
   ·simp [hb,h ▸ hb]
  ·rw [if_neg h,aget_cons,aget_cons,ih]
   by_cases hb:b=p.1
   ·by_cases hba:b=a
    ·exact absurd (hba ▸ hb) h
    ·simp [hb,hb ▸ hba]
   ·simp [hb]
theorem aput_new (m:List (κ×ν)) (a:κ) (v:ν) (h:aget m a=none):aput m a v=m++[(a,v)]:=by
 induction m with
 | nil=>rfl
 | cons p m ih =>
  rw [aget_cons] at h
  rw [aput_cons]
  split at h
  ·cases h
  ·rename_i hn;rw [if_neg hn,ih h];rfl
structure Kd (κ ν:Type) [DecidableEq κ] (K:KeyT) (ek:κ->AVal) (ev:ν->AVal):Prop where
 fit:∀ a,keyFit K (ek a)=true
 ptr:hasPtr K.ls=false
 eq:∀ a b,keyEqs (ek a).cells (ek b).cells=decide (a=b)
def ERs (ek:κ->AVal) (ev:ν->AVal):List AEntry->List (κ×ν)->Prop
 | [],m=>m=[]
 | e :: es,m=>∃ a v m',m=(a,v) :: m'/\e.key=ek a/\e.val=ev v/\ERs ek ev es m'
def MapOf (K:KeyT) (ek:κ->AVal) (ev:ν->AVal) (h:AHeap) (b:Nat) (m:List (κ×ν)):Prop:=∃ es clock,h.get b=some (.map K.kt es clock)/\ERs ek ev es m
variable {K:KeyT} {ek:κ->AVal} {ev:ν->AVal} {h h':AHeap} {b:Nat} {m:List (κ×ν)}
theorem MapOf.mono (v:MapOf K ek ev h b m) (k:Hle h h'):MapOf K ek ev h' b m:=have _i:=‹DecidableEq κ›;let ⟨es,c,e,r⟩:=v;⟨es,c,k.get _ _ e,r⟩
theorem MapOf.keep (v:MapOf K ek ev h b m) (k:h'.get b=h.get b):MapOf K ek ev h' b m:=have _i:=‹DecidableEq κ›;let ⟨es,c,e,r⟩:=v;⟨es,c,k.trans e,r⟩
theorem MapOf.lt (v:MapOf K ek ev h b m) (w:WF h):b < h.next:=have _i:=‹DecidableEq κ›;let ⟨_,_,e,_⟩:=v;w.lt e
theorem MapOf.new (h:AHeap):MapOf K ek ev (h.new (.map K.kt [] 0)) h.next ([]:List (κ×ν)):=have _i:=‹DecidableEq κ›;⟨[],0,by rw [AHeap.get_new,if_pos rfl],rfl⟩
theorem ERs.find (kd:Kd κ ν K ek ev) (a:κ):∀ {es:List AEntry} {m:List (κ×ν)},ERs ek ev es m->findE (ek a).cells es=(aget m a).map ev
 | [],m,r=>by simp only [ERs] at r;subst r;rfl
 | e :: es,m,r=>by
  obtain ⟨c,v,m',rfl,h1,h2,h3⟩:=r
  show bi (keyEqs (ek a).cells e.key.cells) (some e.val) (findE (ek a).cells es)=_
  rw [h1,kd.eq,h2,ERs.find kd a h3,bi_eq,aget_cons]
  by_cases hac:a=c
  ·simp [hac]
  ·simp [hac]
theorem ERs.put (kd:Kd κ ν K ek ev) (a:κ) (v:ν) (clock:Nat):∀ {es:List AEntry} {m:List (κ×ν)},ERs ek ev es m->ERs ek ev (putE (ek a) (ev v) clock es) (aput m a v)
 | [],m,r=>by simp only [ERs] at r;subst r;exact ⟨a,v,[],rfl,rfl,rfl,rfl⟩
 | e :: es,m,r=>by
  obtain ⟨c,u,m',rfl,h1,h2,h3⟩:=r
  have e1:putE (ek a) (ev v) clock (e :: es)=bi (keyEqs (ek a).cells e.key.cells) (⟨ek a,ev v,e.born⟩ :: es) (e :: putE (ek a) (ev v) clock es):=rfl
  rw [e1,h1,kd.eq,bi_eq,aput_cons]
  by_cases hac:a=c
  ·subst hac
   simp only [decide_true,if_true]
   exact ⟨a,v,m',rfl,rfl,rfl,h3⟩
  ·simp only [hac,decide_false,Bool.false_eq_true,if_false]
   exact ⟨c,u,_,rfl,h1,h2,ERs.put kd a v clock h3⟩
theorem ERs.length:∀ {es:List AEntry} {m:List (κ×ν)},ERs ek ev es m->es.length=m.length
 | [],m,r=>by have _i:=‹DecidableEq κ›;simp only [ERs] at r;subst r;rfl
 | e :: es,m,r=>by obtain ⟨c,u,m',rfl,_,_,h3⟩:=r;simp [ERs.length h3]
theorem MapOf.lookup (v:MapOf K ek ev h b m) (kd:Kd κ ν K ek ev) (a:κ) (z:AVal) (ok:Bool):lookupA K z ok (.map b) (ek a) h=found z ok ((aget m a).map ev):=by
 obtain ⟨es,c,e,r⟩:=v
 unfold lookupA
 rw [kd.fit,bi_true]
 simp only [onMapV_c,e,ob_some,onEntries_c,nbeq,decide_true,Bool.true_and]
 have:keyOk h K.ls (ek a).cells es=true:=by unfold keyOk;rw [kd.ptr,bi_false]
 rw [this,bi_true,r.find kd a]
theorem MapOf.update (w:MapOf K ek ev h b m) (kd:Kd κ ν K ek ev) (a:κ) (v:ν):∃ h',updateA K (.map b) (ek a) (ev v) h=some (none,h')/\MapOf K ek ev h' b (aput m a v)/\But b h h':=by
 obtain ⟨es,c,e,r⟩:=w
 refine ⟨h.set b (.map K.kt (putE (ek a) (ev v) c es) (bi (hasE (ek a).cells es) c (c+1))),?_,⟨putE (ek a) (ev v) c es,bi (hasE (ek a).cells es) c (c+1),?_,r.put kd a v c⟩,⟨rfl,fun j hj=>?_⟩⟩
 ·unfold updateA
  rw [kd.fit,bi_true]
  simp only [onMap_c,e,ob_some,onEntries_c,nbeq,decide_true,Bool.true_and]
  have:keyOk h K.ls (ek a).cells es=true:=by unfold keyOk;rw [kd.ptr,bi_false]
  rw [this,bi_true]
 ·rw [AHeap.get_set,if_pos rfl]
 ·rw [AHeap.get_set,if_neg (fun e=>hj e.symm)]
theorem MapOf.len (v:MapOf K ek ev h b m):lenA .map (.map b) h=some (.int .i64 (m.length:Int)):=by
 obtain ⟨es,c,e,r⟩:=v
 simp [e,r.length]
end
@[simp] theorem found_none (z:AVal):found z false none=some z:=(rfl)
@[simp] theorem found_some (z v:AVal):found z false (some v)=some v:=(rfl)
@[simp] theorem found_none' (z:AVal):found z true none=some (.tup [z,.bool false]):=(rfl)
@[simp] theorem found_some' (z v:AVal):found z true (some v)=some (.tup [v,.bool true]):=(rfl)
@[simp] theorem makeMapA_none (kt:TypeId) (T:PT AVal) (h:AHeap):makeMapA kt T h none=some (some (.map h.next),h.new (.map kt [] 0)):=(rfl)
@[simp] theorem makeMapA_some (kt:TypeId) (T:PT AVal) (h:AHeap) (x:Opd):makeMapA kt T h (some x)=ob (x.get T) fun a=>onInt a fun _ _=>some (some (.map h.next),h.new (.map kt [] 0)):=(rfl)
@[simp] theorem listGet_0 (v:AVal) (vs:List AVal):listGet (v :: vs) 0=some v:=(rfl)
@[simp] theorem listGet_s (v:AVal) (vs:List AVal) (n:Nat):listGet (v :: vs) (n+1)=listGet vs n:=(rfl)
@[simp] theorem listGet_1 (u v:AVal) (vs:List AVal):listGet (u :: v :: vs) 1=some v:=(rfl)
@[simp] theorem listGet_2 (t u v:AVal) (vs:List AVal):listGet (t :: u :: v :: vs) 2=some v:=(rfl)
section
variable {h:AHeap} {kt:TypeId} {es:List AEntry} {c b i n:Nat}
@[simp] theorem next_newMap:(h.new (.map kt es c)).next=h.next+1:=(rfl)
@[simp] theorem read1_newMap (hb:b≠h.next):(h.new (.map kt es c)).read1 b i=h.read1 b i:=by
 unfold AHeap.read1;rw [AHeap.get_new,if_neg (fun e=>hb e.symm)]
@[simp] theorem read_newMap (hb:b≠h.next):(h.new (.map kt es c)).read b i n=h.read b i n:=by
 unfold AHeap.read;rw [AHeap.get_new,if_neg (fun e=>hb e.symm)]
theorem read1_keep {h h':AHeap} (k:h'.get b=h.get b):h'.read1 b i=h.read1 b i:=by unfold AHeap.read1;rw [k]
end
end Go.Ab
