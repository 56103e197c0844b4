/- Part 5 of the proof of Rows.AutoTwoUptoCardSaid (the conditions: those of the given row alone). Laid by program (pack.py) out of the texts in wip/, remarks left out. -/
import Derived.Test.YtnaccglcbfeenaaGreatDoorT4
set_option linter.unusedSimpArgs false
set_option linter.unusedVariables false
set_option maxHeartbeats 1000000
namespace Go.Ab
def ORow (h:AHeap) (sz:Nat) (v:AVal) (n:Nat) (cs:List AVal):Prop :=
 cs.length=n*sz/\((v=.nils/\n=0)\/∃ b cap rest,v=.slice b 0 n cap sz/\n<=cap/\Blk h b (cs++rest))
structure Grown (v:AVal) (h h':AHeap):Prop where
 next:h'.next=h.next+1
 get:∀ j,j < h.next->(v=.nils\/j≠rowB v)->h'.get j=h.get j
section
variable {h h':AHeap} {sz n:Nat} {v:AVal} {cs:List AVal}
theorem ORow.nil (h:AHeap) (sz:Nat):ORow h sz .nils 0 []:=⟨by simp,.inl ⟨rfl,rfl⟩⟩
theorem ORow.mono (o:ORow h sz v n cs) (k:Hle h h'):ORow h' sz v n cs:=⟨o.1,o.2.imp id fun ⟨b,cap,rest,e,e2,r⟩=>⟨b,cap,rest,e,e2,r.mono k⟩⟩
theorem ORow.keep (o:ORow h sz v n cs) (k:h'.get (rowB v)=h.get (rowB v)):ORow h' sz v n cs :=
 ⟨o.1,o.2.imp id fun ⟨b,cap,rest,e,e2,r⟩=>⟨b,cap,rest,e,e2,r.keep (by rw [e] at k;exact k)⟩⟩
theorem ORow.lt (o:ORow h sz v n cs) (w:WF h):v=.nils\/rowB v < h.next:=o.2.imp (fun e=>e.1) fun ⟨b,cap,rest,e,_,r⟩=>by rw [e];exact r.lt w
theorem ORow.len (o:ORow h sz v n cs) (h':AHeap):lenA .row v h'=some (.int .i64 (n:Int)):=by
 obtain ⟨_,⟨rfl,rfl⟩ | ⟨b,cap,rest,rfl,_⟩⟩:=o<;>rfl
theorem ORow.cells (o:ORow h sz v n cs):v.cells=[v]:=by
 obtain ⟨_,⟨rfl,rfl⟩ | ⟨b,cap,rest,rfl,_⟩⟩:=o<;>rfl
theorem ORow.one (o:ORow h sz v n cs):oneA v=true:=by
 obtain ⟨_,⟨rfl,rfl⟩ | ⟨b,cap,rest,rfl,_⟩⟩:=o<;>rfl
theorem ORow.idx (o:ORow h sz v n cs) {i:Nat} (hi:i < n) (k:IntKind):indexAddrS sz v (.int k (i:Int))=some (.ptr (rowB v) (i*sz)):=by
 obtain ⟨_,⟨rfl,rfl⟩ | ⟨b,cap,rest,rfl,_⟩⟩:=o
 ·omega
 ·simp [indexAddrS,Nat.succ_le_iff,hi]
theorem ORow.blk (o:ORow h sz v n cs) (hn:0 < n):∃ rest,Blk h (rowB v) (cs++rest):=by
 obtain ⟨_,⟨rfl,rfl⟩ | ⟨b,cap,rest,rfl,_,r⟩⟩:=o
 ·omega
 ·exact ⟨rest,r⟩
theorem ORow.row (o:ORow h sz v n cs) {ls:List (List AVal)} (hs:∀ l∈ls,l.length=sz) (hl:ls.length=n) (hc:ls.flatten=cs):Row h sz v ls:=by
 subst hc;subst hl
 obtain ⟨_,⟨rfl,e⟩ | ⟨b,cap,rest,rfl,hcap,a,m,g,hm,r⟩⟩:=o
 ·have:ls=[]:=List.length_eq_zero_iff.1 e
  subst this;exact Row.nil _ _
 ·have hb:Blk (h.set b (.cells ls.flatten.length a m)) b ls.flatten:=⟨a,m,by rw [AHeap.get_set,if_pos rfl],hm,fun i c e=>r i c (by rw [List.getElem?_append_left (List.getElem?_eq_some_iff.1 e).1];exact e)⟩
  obtain ⟨_,⟨e,_⟩ | ⟨b',off,cap',e,e2,n',a',m',g',hle,q⟩⟩:=hb.row hs hcap
  ·cases e
  ·cases e
   rw [AHeap.get_set,if_pos rfl] at g'
   cases g'
   refine ⟨hs,.inr ⟨b,0,cap,rfl,hcap,_,a,m,g,?_,q⟩⟩
   simp only [List.length_append];omega
theorem ORow.row1 (o:ORow h 1 v n cs):Row1 h v cs:=by
 refine ORow.row o (fun l hl=>by obtain ⟨c,_,rfl⟩:=List.mem_map.1 hl;rfl) ?_ ?_
 ·have:=o.1;simp;omega
 ·clear o;induction cs with
  | nil=>rfl
  | cons c cs ih=>simp only [List.map_cons,List.flatten_cons,ih];rfl
theorem ORow.more (o:ORow h sz v n cs):more h sz v=some (n,cs):=by
 obtain ⟨hl,⟨rfl,rfl⟩ | ⟨b,cap,rest,rfl,_,r⟩⟩:=o
 ·have:cs=[]:=List.length_eq_zero_iff.1 (by simpa using hl)
  subst this;rfl
 ·have:=r.rd (off:=0) (n:=n*sz) (l:=cs) (by simp only [List.length_append];omega) (by rw [List.drop_zero,<-hl,List.take_left])
  show bi (Nat.beq sz sz) (ob (h.read b 0 (n*sz)) fun l=>some (n,l)) none=_
  rw [this];simp
theorem ORow.fresh (h:AHeap) {sz n:Nat} {cs:List AVal} (hl:cs.length=n*sz):ORow (h.newCells cs) sz (.slice h.next 0 n n sz) n cs :=
 ⟨hl,.inr ⟨h.next,n,[],rfl,Nat.le_refl _,by rw [List.append_nil];exact Blk.new h cs⟩⟩
theorem allOne_iff {l:List AVal}:allOne l=true↔∀ v∈l,oneA v=true:=by
 induction l with
 | nil=>simp [allOne]
 | cons v l ih =>
  show bi (oneA v) (allOne l) false=true↔_
  rw [bi_eq]
  cases hv:oneA v<;>simp [hv,ih]
theorem ORow.append (o:ORow h sz v n cs) (w:WF h) {x:AVal} {m:Nat} {new:List AVal} (hm:Go.Ab.more h sz x=some (m,new)) (hl:new.length=m*sz) (h0:0 < m) (hn:n+m<=67108864) (ho:allOne new=true) :
  ∃ h',appendA h sz v x=some (some (.slice h.next 0 (n+m) (n+m) sz),h')/\ORow h' sz (.slice h.next 0 (n+m) (n+m) sz) (n+m) (cs++new)/\WF h'/\Grown v h h':=by
 have hne:Nat.beq m 0=false:=by rw [nbeq];simp;omega
 have key:appendA h sz v x=appendTo h sz v m new:=by
  show ob (Go.Ab.more h sz x) (fun nl=>bi (Nat.beq nl.1 0) (onRow v (ret h v) fun _ _ _ _ _=>ret h v) (appendTo h sz v nl.1 nl.2))=_
  rw [hm,ob_some,hne,bi_false]
 rw [key]
 obtain ⟨hlc,⟨rfl,rfl⟩ | ⟨b,cap,rest,rfl,hcap,r⟩⟩:=o
 ·have:cs=[]:=List.length_eq_zero_iff.1 (by simpa using hlc)
  subst this
  refine ⟨h.newCells new,?_,?_,w.newCells _,⟨rfl,fun j hj _=>?_⟩⟩
  ·show bi (Nat.ble m 67108864) (ret (h.newCells new) (.slice h.next 0 m m sz)) none=_
   rw [nble,decide_eq_true (by omega),bi_true,Nat.zero_add];rfl
  ·rw [Nat.zero_add,List.nil_append];exact ORow.fresh h hl
  ·rw [get_newCells,if_neg (by omega)]
 ·have hb:=r.lt w
  obtain ⟨a,m0,g,hm0,q⟩:=id r
  have fin:∀ (y:ABlock),Blk (h.turn b y) h.next (cs++new)->appendTo h sz (.slice b 0 n cap sz) m new=some (some (.slice h.next 0 (n+m) (n+m) sz),h.turn b y) ->
    ∃ h',appendTo h sz (.slice b 0 n cap sz) m new=some (some (.slice h.next 0 (n+m) (n+m) sz),h')/\ORow h' sz (.slice h.next 0 (n+m) (n+m) sz) (n+m) (cs++new)/\WF h'/\Grown (.slice b 0 n cap sz) h h':=by
   intro y hy e
   refine ⟨_,e,⟨by rw [List.length_append,hlc,hl,Nat.add_mul],.inr ⟨h.next,n+m,[],rfl,Nat.le_refl _,by rw [List.append_nil];exact hy⟩⟩,w.turn _ _,⟨rfl,fun j hj hne=>?_⟩⟩
   rw [AHeap.get_turn,if_neg (by omega),if_neg]
   rcases hne with e | e
   ·cases e
   ·exact fun e2=>e e2.symm
  have hread:h.read b 0 (n*sz)=some cs:=r.rd (off:=0) (n:=n*sz) (l:=cs) (by simp only [List.length_append];omega) (by rw [List.drop_zero,<-hlc,List.take_left])
  have e1:appendTo h sz (.slice b 0 n cap sz) m new=bi (Nat.beq 0 0 && Nat.beq (cs++rest).length (n*sz))
    (ret (h.turn b (.cells ((cs++rest).length+new.length) (setCells new (cs++rest).length a) 1)) (.slice h.next 0 (n+m) (n+m) sz))
    (ret (h.turn b (.cells (cs++new).length (ofList (cs++new)) 1)) (.slice h.next 0 (n+m) (n+m) sz)):=by
   show bi (Nat.beq sz sz && (Nat.ble (n+m) 67108864 && allOne new)) (ob (h.get b) fun x=>onCells x fun k a m'=>bi (Nat.ble m' 1) (bi (Nat.beq 0 0 && Nat.beq k (n*sz)) (ret (h.turn b (.cells (k+new.length) (setCells new k a) 1)) (.slice h.next 0 (n+m) (n+m) sz))
    (ob (h.read b 0 (n*sz)) fun old=>ret (h.turn b (.cells (old++new).length (ofList (old++new)) 1)) (.slice h.next 0 (n+m) (n+m) sz))) none) none=_
   rw [g,hread,ho,nble,decide_eq_true hn,nbeq sz sz]
   simp only [decide_true,Bool.and_self,bi_true,ob_some,onCells_c,nble,hm0]
  rw [bi_eq] at e1
  split at e1
  ·rename_i hk
   simp only [nbeq,decide_true,Bool.true_and,decide_eq_true_eq] at hk
   have hr:rest=[]:=List.length_eq_zero_iff.1 (by simp only [List.length_append] at hk;omega)
   subst hr
   rw [List.append_nil] at q
   refine fin _ ⟨setCells new (cs++[]).length a,1,by rw [AHeap.get_turn,if_pos rfl];simp only [List.append_nil,List.length_append],by omega,fun i c e=>?_⟩ e1
   rw [get_setCells]
   simp only [List.append_nil]
   split
   ·rename_i hi
    rw [List.getElem?_append_right (by omega)] at e
    exact e
   ·rename_i hi
    have hi':i < cs.length:=by
     have:=(List.getElem?_eq_some_iff.1 e).1
     simp only [List.length_append] at this
     omega
    rw [List.getElem?_append_left hi'] at e
    exact q i c e
  ·refine fin _ ⟨_,1,by rw [AHeap.get_turn,if_pos rfl],by omega,fun i c e=>?_⟩ e1
   rw [get_ofList];exact e
theorem ORow.write (o:ORow h sz v n cs) {i off:Nat} {vs:List AVal} (hoff:off=i*sz+0) (hi:i < n) (hl:vs.length=sz) (ho:allOne vs=true) :
  ∃ h',h.write (rowB v) off vs=some h'/\ORow h' sz v n (cs.take off++vs++cs.drop (off+sz))/\But (rowB v) h h':=by
 obtain ⟨hlc,⟨rfl,rfl⟩ | ⟨b,cap,rest,rfl,hcap,r⟩⟩:=o
 ·omega
 ·have hb:off+sz<=cs.length:=by rw [hlc,hoff,Nat.add_zero,<-Nat.succ_mul];exact Nat.mul_le_mul_right _ hi
  obtain ⟨h',e1,e2,e3⟩:=r.write (off:=off) (vs:=vs) (by simp only [List.length_append];omega) ho
  refine ⟨h',e1,⟨?_,.inr ⟨b,cap,rest,rfl,hcap,?_⟩⟩,e3⟩
  ·simp only [List.length_append,List.length_take,List.length_drop];omega
  ·have:(cs++rest).take off++vs++(cs++rest).drop (off+vs.length)=cs.take off++vs++cs.drop (off+sz)++rest:=by
    rw [hl,List.take_append_of_le_length (by omega),List.drop_append_of_le_length hb];simp only [List.append_assoc]
   rw [this] at e2;exact e2
theorem ORow.write1 (o:ORow h 1 v n cs) {i:Nat} {c:AVal} (hi:i < n) (ho:oneA c=true):∃ h',h.write (rowB v) i [c]=some h'/\ORow h' 1 v n (cs.set i c)/\But (rowB v) h h':=by
 obtain ⟨h',e1,e2,e3⟩:=o.write (i:=i) (off:=i) (vs:=[c]) (by omega) hi rfl (by rw [allOne_iff];simpa using ho)
 refine ⟨h',e1,?_,e3⟩
 have hlc:=o.1
 have:cs.take i++[c]++cs.drop (i+1)=cs.set i c:=by rw [List.set_eq_take_append_cons_drop,if_pos (by omega)];simp
 rw [this] at e2;exact e2
end
end Go.Ab
namespace Go.Ab.Z
open Go Go.Ab
def I32 (n:Int):Prop:=-2147483648<=n/\n < 2147483648
def U32 (n:Int):Prop:=0<=n/\n < 4294967296
def I64 (n:Int):Prop:=-9223372036854775808<=n/\n < 9223372036854775808
structure PLetter where
 rune:Int
 plus:Int
 minus:Int
abbrev PLetter.cells (l:PLetter):List AVal:=[.int .i32 l.rune,.int .u32 l.plus,.int .u32 l.minus]
structure PAlpha where
 features:List (List UInt8)
 letters:List PLetter
structure PMove where
 src:Int
 dst:Int
 rune:Int
 deriving DecidableEq
abbrev PMove.cells (m:PMove):List AVal:=[.int .i64 m.src,.int .i64 m.dst,.int .i32 m.rune]
structure PAuto where
 states:Int
 ends:List Int
 moves:List PMove
 deriving DecidableEq
def vI (n:Int):AVal:=.int .i64 n
structure IsAlpha (h:AHeap) (fe le:AVal) (A:PAlpha):Prop where
 fe:Row1 h fe (A.features.map .str)
 le:Row h 3 le (A.letters.map PLetter.cells)
 nf:A.features.length<=1048576
 nl:A.letters.length<=1048576
 ok:∀ l∈A.letters,I32 l.rune/\U32 l.plus/\U32 l.minus
 fl:∀ f∈A.features,f.length<=1048576
theorem IsAlpha.mono {h h':AHeap} {fe le:AVal} {A:PAlpha} (a:IsAlpha h fe le A) (k:Hle h h'):IsAlpha h' fe le A:=⟨a.1.mono k,a.2.mono k,a.3,a.4,a.5,a.6⟩
structure IsAuto (h:AHeap) (en mo:AVal) (X:PAuto):Prop where
 en:Row1 h en (X.ends.map vI)
 mo:Row h 3 mo (X.moves.map PMove.cells)
 ne:X.ends.length<=1048577
 nm:X.moves.length<=1048577
 ok:I64 X.states/\(∀ e∈X.ends,I64 e)/\∀ m∈X.moves,I64 m.src/\I64 m.dst/\I32 m.rune
theorem IsAuto.mono {h h':AHeap} {en mo:AVal} {X:PAuto} (a:IsAuto h en mo X) (k:Hle h h'):IsAuto h' en mo X:=⟨a.1.mono k,a.2.mono k,a.3,a.4,a.5⟩
def aV (n:Int) (en mo:AVal):AVal:=.agg [.int .i64 n,en,mo]
section
variable {h:AHeap}
end
theorem loop_by {σ:Type} (I:σ->AHeap->Prop) (sl:σ->Slots) (μ:σ->Nat) (s:σ) {B:Kn->Kn} {T:PT AVal} {h:AHeap} (hT:Has T (sl s)) (hI:I s h)
  (H:∀ s h (K:Kn),I s h->(∀ s' T' h',μ s' < μ s->Has T' (sl s')->I s' h'->K T' h')->B K (treeOf (sl s)) h):lpI B T h :=
 ⟨σ,I,sl,μ,s,hT,hI,fun s h hI=>H s h _ hI fun s' T' h' h1 h2 h3=>⟨s',h1,h2,h3⟩⟩
theorem kcast {k:Post} {v v':AVal} {h:AHeap} (H:k v h) (e:v'=v):k v' h:=e ▸ H
theorem map_getElem? {α β:Type} {l:List α} {f:α->β} {i:Nat} (hi:i < l.length):(l.map f)[i]?=some (f l[i]):=by simp [hi]
def IsRows (h:AHeap) (v:AVal) (R:List (List Int)):Prop:=∃ vs:List AVal,vs.length=R.length/\Row1 h v vs/\∀ (i:Nat) (r:List Int) (x:AVal),R[i]?=some r->vs[i]?=some x->Row1 h x (r.map vI)
theorem IsRows.mono {h h':AHeap} {v:AVal} {R:List (List Int)} (a:IsRows h v R) (k:Hle h h'):IsRows h' v R :=
 let ⟨vs,e,r,q⟩:=a;⟨vs,e,r.mono k,fun i r x h1 h2=>(q i r x h1 h2).mono k⟩
theorem IsRows.get {h:AHeap} {v:AVal} {R:List (List Int)} (a:IsRows h v R) {i:Nat} (hi:i < R.length):∃ x,indexAddrS 1 v (.int .i64 (i:Int))=some (.ptr (rowB v) (rowO v+i))/\h.read1 (rowB v) (rowO v+i)=some x/\Row1 h x (R[i].map vI):=by
 obtain ⟨vs,e,r,q⟩:=a
 have hi':i < vs.length:=by omega
 exact ⟨vs[i],r.idx hi' _,r.rd (by simp [hi']),q i R[i] vs[i] (by simp [hi]) (by simp [hi'])⟩
structure IsGraph (h:AHeap) (to en:AVal) (R:List (List Int)) (E:List Bool):Prop where
 to:IsRows h to R
 en:Row1 h en (E.map .bool)
theorem IsGraph.mono {h h':AHeap} {to en:AVal} {R:List (List Int)} {E:List Bool} (a:IsGraph h to en R E) (k:Hle h h'):IsGraph h' to en R E:=⟨a.1.mono k,a.2.mono k⟩
def stepG (R:List (List Int)) (s:Int) (k:Nat):Int:=if s < 0 then -1 else (R.getD s.toNat []).getD k (-1)
def endG (E:List Bool) (s:Int):Bool:=decide (0<=s) && E.getD s.toNat false
end Go.Ab.Z
namespace Go.Ab.Z
open Go Go.Ab
noncomputable abbrev PP:Program:=Go.Proofs.Tryz.prog
noncomputable abbrev Cf:CallF:=cfP PP []
variable {h:AHeap} {k:Post} {fe le en mo to:AVal} {A:PAlpha} {X:PAuto} {R:List (List Int)} {E:List Bool}
theorem f46 (p q:Bool) (H:WF h->k (.bool (p && q)) h):Cf 46 [.bool p,.bool q] h k:=by
 refine use_code compiled46 fun hw=>?_
 cases p<;>simp [fn46]<;>intro w<;>simpa using H w
theorem f48 (p q:Bool) (H:WF h->k (.bool (p || q)) h):Cf 48 [.bool p,.bool q] h k:=by
 refine use_code compiled48 fun hw=>?_
 cases p<;>simp [fn48]<;>intro w<;>simpa using H w
theorem IsAlpha.llen (hA:IsAlpha h fe le A) (h':AHeap):lenA .row le h'=some (.int .i64 (A.letters.length:Int)):=by have:=hA.le.len h';simpa using this
theorem IsAlpha.flen (hA:IsAlpha h fe le A) (h':AHeap):lenA .row fe h'=some (.int .i64 (A.features.length:Int)):=by have:=hA.fe.len h';simpa using this
theorem IsAuto.mlen (hX:IsAuto h en mo X) (h':AHeap):lenA .row mo h'=some (.int .i64 (X.moves.length:Int)):=by have:=hX.mo.len h';simpa using this
theorem IsAuto.elen (hX:IsAuto h en mo X) (h':AHeap):lenA .row en h'=some (.int .i64 (X.ends.length:Int)):=by have:=hX.en.len h';simpa using this
def wide (A:PAlpha):Bool:=decide (20 < A.letters.length/\A.letters.length<=128)
theorem f9 (hA:IsAlpha h fe le A) (H:∀ h',WF h'->Hle h h'->k (.bool (wide A)) h'):Cf 9 [.agg [fe,le]] h k:=by
 refine use_code compiled9 fun hw=>?_
 simp [fn9,hA.llen]
 refine ap_split (fun hc=>?_) (fun hc=>?_)<;>simp [hA.llen,hc]<;>intro w <;>
  exact kcast (H _ w (Hle.newCells hw _)) (by unfold wide;congr 1;rw [Bool.eq_iff_iff];simp;omega)
def large (X:PAuto):Bool:=decide (40 < X.states/\X.states<=4096\/200 < X.moves.length/\X.moves.length<=16384)
theorem f10 (hX:IsAuto h en mo X) (H:∀ h',WF h'->Hle h h'->k (.bool (large X)) h'):Cf 10 [aV X.states en mo] h k:=by
 refine use_code compiled10 fun hw=>?_
 simp [fn10,aV]
 have fin:∀ b:Bool,(b=true↔(40 < X.states/\X.states<=4096\/200 < X.moves.length/\X.moves.length<=16384))->WF (h.newCells [.int .i64 X.states,en,mo])->k (.bool b) (h.newCells [.int .i64 X.states,en,mo]):=fun b hb w =>
  kcast (H _ w (Hle.newCells hw _)) (by unfold large;congr 1;rw [Bool.eq_iff_iff,hb];simp)
 refine ap_split (fun hc=>?_) (fun hc=>?_)<;>simp [hc]
 ·refine ap_split (fun hd=>?_) (fun hd=>?_)<;>simp [hd,hX.mlen]
  ·refine ap_split (fun hf=>?_) (fun hf=>?_)<;>simp [hX.mlen,hf]<;>refine fin _ ?_<;>simp<;>omega
  ·refine fin _ ?_;simp;omega
 ·simp [hX.mlen]
  refine ap_split (fun hf=>?_) (fun hf=>?_)<;>simp [hX.mlen,hf]<;>refine fin _ ?_<;>simp<;>omega
theorem f54 (hG:IsGraph h to en R E) {s:Int} (hs:s < E.length) (H:∀ h',WF h'->Hle h h'->k (.bool (endG E s)) h'):Cf 54 [.agg [to,en],.int .i64 s] h k:=by
 refine use_code compiled54 fun hw=>?_
 simp [fn54]
 refine ap_split (fun hc=>?_) (fun hc=>?_)<;>simp [hc]
 ·intro w;exact kcast (H _ w (Hle.newCells hw _)) (by simp [endG];omega)
 ·obtain ⟨n,rfl⟩:=Int.eq_ofNat_of_zero_le (by omega:0<=s)
  have hn:n < E.length:=by omega
  have h1:=hG.en.idx (i:=n) (by simpa using hn) .i64
  have h2:=(hG.en.mono (Hle.newCells hw [to,en])).rd (i:=n) (c:=.bool E[n]) (by simp [hn])
  simp [h1,h2]
  intro w;exact kcast (H _ w (Hle.newCells hw _)) (by simp [endG,hn])
theorem f55 (hG:IsRows h to R) {s:Int} {j:Nat} (hs:s < R.length) (hj:∀ r∈R,j < r.length) (H:∀ h',WF h'->Hle h h'->k (.int .i64 (stepG R s j)) h'):Cf 55 [.agg [to,en],.int .i64 s,.int .i64 j] h k:=by
 refine use_code compiled55 fun hw=>?_
 simp [fn55]
 refine ap_split (fun hc=>?_) (fun hc=>?_)<;>simp [hc]
 ·intro w;exact kcast (H _ w (Hle.newCells hw _)) (by simp [stepG,hc])
 ·obtain ⟨n,rfl⟩:=Int.eq_ofNat_of_zero_le (by omega:0<=s)
  have hn:n < R.length:=by omega
  obtain ⟨x,h1,h2,h3⟩:=(hG.mono (Hle.newCells hw [to,en])).get hn
  have hj':j < R[n].length:=hj _ (List.getElem_mem hn)
  have h4:=h3.idx (i:=j) (by simpa using hj') .i64
  have h5:=h3.rd (i:=j) (c:=vI R[n][j]) (by simp [hj'])
  simp [h1,h2,h4,h5]
  intro w;exact kcast (H _ w (Hle.newCells hw _)) (by simp [stepG,hn,hj',vI];omega)
def mayRune (r:Int):Bool:=decide (97<=r/\r<=122\/65<=r/\r<=90\/(161<=r/\r<=1114111/\r≠65533/\(r < 55296\/57343 < r)))
theorem f131 {r:Int} (H:WF h->k (.bool (mayRune r)) h):Cf 131 [.int .i32 r] h k:=by
 refine use_code compiled131 fun hw=>?_
 have fin:∀ b:Bool,(b=true↔(97<=r/\r<=122\/65<=r/\r<=90\/(161<=r/\r<=1114111/\r≠65533/\(r < 55296\/57343 < r))))->WF h->k (.bool b) h:=fun b hb w =>
  kcast (H w) (by unfold mayRune;congr 1;rw [Bool.eq_iff_iff,hb];simp)
 by_cases c1:r < 97<;>by_cases c2:122 < r<;>by_cases c3:r < 65<;>by_cases c4:90 < r<;>by_cases c5:r < 161<;>by_cases c6:1114111 < r<;>by_cases c7:r=65533<;>by_cases c8:r < 55296 <;>
  first | (exfalso;omega) | (simp [fn131,c1,c2,c3,c4,c5,c6,c7,c8];refine fin _ ?_;simp;omega)
theorem shr11 (r:Int) (h:I32 r):r.fdiv 2048=27↔55296<=r/\r<=57343:=by
 rw [Int.fdiv_eq_ediv_of_nonneg _ (by omega)];omega
theorem f125 {r:Int} (hr:I32 r) (H:WF h->k (.bool (mayRune r)) h):Cf 125 [.int .i32 r] h k:=by
 refine use_code compiled125 fun hw=>?_
 have fin:∀ b:Bool,(b=true↔(97<=r/\r<=122\/65<=r/\r<=90\/(161<=r/\r<=1114111/\r≠65533/\(r < 55296\/57343 < r))))->WF h->k (.bool b) h:=fun b hb w =>
  kcast (H w) (by unfold mayRune;congr 1;rw [Bool.eq_iff_iff,hb];simp)
 have e:binI .shr .i32 .u64 r 11=some (.int .i32 (r.fdiv 2048)):=rfl
 have e2:=shr11 r hr
 by_cases c1:r < 97<;>by_cases c2:122 < r<;>by_cases c3:r < 65<;>by_cases c4:90 < r<;>by_cases c5:r < 161<;>by_cases c6:1114111 < r<;>by_cases c7:r=65533<;>by_cases c8:r.fdiv 2048=27 <;>
  first | (exfalso;omega) | (simp [fn125,c1,c2,c3,c4,c5,c6,c7,c8,e];refine fin _ ?_;simp;omega)
end Go.Ab.Z
namespace Go.Ab.Z
open Go Go.Ab
variable {h:AHeap} {k:Post} {fe le en mo to:AVal} {A:PAlpha} {X:PAuto} {R:List (List Int)} {E:List Bool}
theorem wrapU32 {n:Int} (h1:0<=n) (h2:n < 4294967296):wrapF .u32 n=n:=by
 obtain ⟨m,rfl⟩:=Int.eq_ofNat_of_zero_le h1
 show bi (Nat.ble (m+1) 4294967296) (Int.ofNat m) _=_
 rw [nble,bi_eq,if_pos]
 ·rfl
 ·simp;omega
theorem wrapU64 {n:Int} (h1:0<=n) (h2:n < 18446744073709551616):wrapF .u64 n=n:=by
 obtain ⟨m,rfl⟩:=Int.eq_ofNat_of_zero_le h1
 show bi (Nat.ble (m+1) 18446744073709551616) (Int.ofNat m) _=_
 rw [nble,bi_eq,if_pos]
 ·rfl
 ·simp;omega
theorem bvNat (w a:Nat):BitVec.ofInt w (a:Int)=BitVec.ofNat w a:=by simp
theorem or32 {a b:Nat} (ha:a < 4294967296) (hb:b < 4294967296):binI .or .u32 .u32 (a:Int) (b:Int)=some (.int .u32 ((a ||| b:Nat):Int)):=by
 have e:(BitVec.ofInt 32 (a:Int) ||| BitVec.ofInt 32 (b:Int)).toNat=a ||| b:=by
  rw [bvNat,bvNat,BitVec.toNat_or,BitVec.toNat_ofNat,BitVec.toNat_ofNat,Nat.mod_eq_of_lt (by simpa using ha),Nat.mod_eq_of_lt (by simpa using hb)]
 have hl:a ||| b < 2 ^ 32:=Nat.or_lt_two_pow (by simpa using ha) (by simpa using hb)
 show (bi (sameK .u32 .u32) (some (AVal.int .u32 (IntKind.u32.wrap (BitVec.ofInt 32 (a:Int) ||| BitVec.ofInt 32 (b:Int)).toNat))) none)=_
 rw [sameK_self,bi_true,e,<-wrapF_eq,wrapU32 (by omega) (by simp at hl;omega)]
theorem and32 {a b:Nat} (ha:a < 4294967296) (hb:b < 4294967296):binI .and .u32 .u32 (a:Int) (b:Int)=some (.int .u32 ((a &&& b:Nat):Int)):=by
 have e:(BitVec.ofInt 32 (a:Int) &&& BitVec.ofInt 32 (b:Int)).toNat=a &&& b:=by
  rw [bvNat,bvNat,BitVec.toNat_and,BitVec.toNat_ofNat,BitVec.toNat_ofNat,Nat.mod_eq_of_lt (by simpa using ha),Nat.mod_eq_of_lt (by simpa using hb)]
 have hl:a &&& b < 2 ^ 32:=Nat.and_lt_two_pow _ (by simpa using hb)
 show (bi (sameK .u32 .u32) (some (AVal.int .u32 (IntKind.u32.wrap (BitVec.ofInt 32 (a:Int) &&& BitVec.ofInt 32 (b:Int)).toNat))) none)=_
 rw [sameK_self,bi_true,e,<-wrapF_eq,wrapU32 (by omega) (by simp at hl;omega)]
def mayClass (n:Nat) (p m:Int):Bool:=decide (p.toNat ||| m.toNat < 2 ^ n/\p.toNat &&& m.toNat=0)
theorem f164 (hA:IsAlpha h fe le A) (hn:A.features.length<=24) (H:∀ h',WF h'->Hle h h'->k (.int .u32 ((2 ^ A.features.length - 1:Nat):Int)) h'):Cf 164 [.agg [fe,le]] h k:=by
 refine use_code compiled164 fun hw=>?_
 have hp:2 ^ A.features.length<=2 ^ 24:=Nat.pow_le_pow_right (by omega) hn
 have hp1:0 < 2 ^ A.features.length:=Nat.pow_pos (by omega)
 have e1:wrapF .u64 (A.features.length:Int)=A.features.length:=wrapU64 (by omega) (by omega)
 have e2:binI .shl .u32 .u64 1 (A.features.length:Int)=some (.int .u32 ((2 ^ A.features.length:Nat):Int)):=by
  show some (AVal.int .u32 (wrapF .u32 (1*2 ^ (min A.features.length 32))))=_
  rw [Nat.min_eq_left (by omega),Int.one_mul,show ((2:Int) ^ A.features.length)=((2 ^ A.features.length:Nat):Int) by simp,wrapU32 (by omega) (by simp at hp;omega)]
 have e3:wrapF .u32 (((2 ^ A.features.length:Nat):Int) - 1)=((2 ^ A.features.length - 1:Nat):Int):=by
  rw [wrapU32 (by omega) (by simp at hp;omega)];omega
 simp only [fn164]
 simp [hA.flen,convA,e1,e2,-Int.natCast_pow]
 rw [e3]
 intro w;exact H _ w (Hle.newCells hw _)
theorem f132 (hA:IsAlpha h fe le A) (hn:A.features.length<=24) {p m:Int} (hp:U32 p) (hm:U32 m) (H:∀ h',WF h'->Hle h h'->k (.bool (mayClass A.features.length p m)) h'):Cf 132 [.agg [fe,le],.int .u32 p,.int .u32 m] h k:=by
 refine use_code compiled132 fun hw=>?_
 obtain ⟨p,rfl⟩:=Int.eq_ofNat_of_zero_le hp.1
 obtain ⟨m,rfl⟩:=Int.eq_ofNat_of_zero_le hm.1
 have hp':p < 4294967296:=by have:=hp.2;omega
 have hm':m < 4294967296:=by have:=hm.2;omega
 have hpow:2 ^ A.features.length<=2 ^ 24:=Nat.pow_le_pow_right (by omega) hn
 have hpow1:0 < 2 ^ A.features.length:=Nat.pow_pos (by omega)
 have hl:p ||| m < 2 ^ 32:=Nat.or_lt_two_pow (by simpa using hp') (by simpa using hm')
 have o:=or32 hp' hm'
 have hrd:=read_newCells h [fe,le] 0 2 (by simp)
 simp [fn132,o,hrd]
 refine f164 (hA.mono (Hle.newCells hw _)) hn fun h' w' le'=>?_
 have o2:=and32 (a:=p ||| m) (b:=2 ^ A.features.length - 1) (by simpa using hl) (by simp at hpow;omega)
 rw [Nat.and_two_pow_sub_one_eq_mod] at o2
 have o3:=and32 hp' hm'
 have key:(p ||| m) % 2 ^ A.features.length=p ||| m↔p ||| m < 2 ^ A.features.length:=by
  constructor
  ·intro e;rw [<-e];exact Nat.mod_lt _ hpow1
  ·exact Nat.mod_eq_of_lt
 have fin:∀ b:Bool,(b=true↔(p ||| m < 2 ^ A.features.length/\p &&& m=0))->WF h'->k (.bool b) h':=fun b hb w =>
  kcast (H _ w ((Hle.newCells hw _).trans le')) (by unfold mayClass;congr 1;rw [Bool.eq_iff_iff,hb];simp)
 simp [o,o2,-Int.natCast_pow,-Int.natCast_emod]
 by_cases hc:p ||| m < 2 ^ A.features.length
 ·rw [key.2 hc]
  simp [o3,hc]
  refine fin _ ?_
  simp [hc]
 ·have:¬ (((p ||| m) % 2 ^ A.features.length:Nat):Int)=((p ||| m:Nat):Int):=fun e=>hc (key.1 (by omega))
  simp only [this,decide_false]
  simp [hc]
  refine fin _ ?_
  simp;intro hh;exact absurd hh hc
theorem f126 (hA:IsAlpha h fe le A) (hn:A.features.length<=24) {p m:Int} (hp:U32 p) (hm:U32 m) (H:∀ h',WF h'->Hle h h'->k (.bool (mayClass A.features.length p m)) h'):Cf 126 [.agg [fe,le],.int .u32 p,.int .u32 m] h k:=by
 refine use_code compiled126 fun hw=>?_
 obtain ⟨p,rfl⟩:=Int.eq_ofNat_of_zero_le hp.1
 obtain ⟨m,rfl⟩:=Int.eq_ofNat_of_zero_le hm.1
 have hp':p < 4294967296:=by have:=hp.2;omega
 have hm':m < 4294967296:=by have:=hm.2;omega
 have hpow1:0 < 2 ^ A.features.length:=Nat.pow_pos (by omega)
 have o:=or32 hp' hm'
 have o3:=and32 hp' hm'
 have o2:binI .shr .u32 .i64 ((p ||| m:Nat):Int) (A.features.length:Int)=some (.int .u32 (((p ||| m) / 2 ^ A.features.length:Nat):Int)):=by
  show some (AVal.int .u32 (((p ||| m:Nat):Int).fdiv (2 ^ (min A.features.length 32))))=_
  rw [Nat.min_eq_left (by omega),Int.fdiv_eq_ediv_of_nonneg _ (by exact Int.le_of_lt (Int.pow_pos (by omega)))]
  simp
 have fin:∀ b:Bool,(b=true↔(p ||| m < 2 ^ A.features.length/\p &&& m=0))->WF (h.newCells [fe,le])->k (.bool b) (h.newCells [fe,le]):=fun b hb w =>
  kcast (H _ w (Hle.newCells hw _)) (by unfold mayClass;congr 1;rw [Bool.eq_iff_iff,hb];simp)
 have key:(p ||| m) / 2 ^ A.features.length=0↔p ||| m < 2 ^ A.features.length:=by
  rw [Nat.div_eq_zero_iff];omega
 simp [fn126,o,hA.flen,o2,-Int.natCast_pow,-Int.natCast_ediv]
 by_cases hc:p ||| m < 2 ^ A.features.length
 ·rw [key.2 hc]
  simp [o3,hc]
  refine fin _ ?_
  simp [hc]
 ·skip
  simp [hc]
  refine fin _ ?_
  simp;intro hh;exact absurd hh hc
end Go.Ab.Z
namespace Go.Ab.Z
open Go Go.Ab
variable {h:AHeap} {k:Post} {fe le en mo to:AVal} {A:PAlpha} {X Y:PAuto} {R:List (List Int)} {E:List Bool}
theorem f56 {a b:AVal} {xs ys:List Int} (ha:Row1 h a (xs.map vI)) (hb:Row1 h b (ys.map vI)) (hn:xs.length<=1048577) (H:WF h->k (.bool (decide (xs=ys))) h):Cf 56 [a,b] h k:=by
 refine use_code compiled56 fun hw=>?_
 have la:=ha.len
 have lb:=hb.len
 simp only [List.length_map] at la lb
 simp [fn56,la,lb]
 refine ap_split (fun hc=>?_) (fun hc=>?_)
 ·simp
  have hc:xs.length=ys.length:=by omega
  rw [L56_1]
  refine loop_intro (σ:=Nat) (fun i h'=>i<=xs.length/\h'=h/\xs.take i=ys.take i) (fun i=>[(0,a),(1,b),(5,.int .i64 i)]) (fun i=>xs.length - i) 0 (by simp) (by simp) ?_
  rintro i h' ⟨hi,rfl,he⟩
  simp [la]
  refine ap_split (fun hd=>?_) (fun hd=>?_)
  ·have hd:i < xs.length:=by omega
   have hd':i < ys.length:=by omega
   have a1:=ha.idx (i:=i) (by simpa using hd) .i64
   have b1:=hb.idx (i:=i) (by simpa using hd') .i64
   have a2:=ha.rd (i:=i) (c:=vI xs[i]) (by simp [hd])
   have b2:=hb.rd (i:=i) (c:=vI ys[i]) (by simp [hd'])
   simp [a1,b1,a2,b2,vI]
   refine ap_split (fun hf=>?_) (fun hf=>?_)
   ·simp
    rw [wrap64 (by omega) (by omega)]
    refine ⟨i+1,by omega,by omega,by omega,?_⟩
    rw [List.take_succ_eq_append_getElem hd,List.take_succ_eq_append_getElem hd',he,hf]
   ·simp
    intro w
    refine kcast (H w) ?_
    have:xs≠ys:=fun e=>hf (by subst e;rfl)
    simp [this]
  ·simp
   intro w
   refine kcast (H w) ?_
   have:xs=ys:=by rw [<-List.take_length (l:=xs),<-List.take_length (l:=ys),<-hc,show xs.length=i by omega];exact he
   simp [this]
 ·simp
  intro w
  refine kcast (H w) ?_
  have:xs≠ys:=fun e=>hc (by subst e;rfl)
  simp [this]
theorem move_neq (h:AHeap) (m n:PMove):binA h .neq (.leaves [.int .i64,.int .i64,.int .i32]) (.agg m.cells) (.agg n.cells)=some (.bool (!decide (m=n))):=by
 have e:keyEqs m.cells n.cells=decide (m=n):=by
  show bi (eqI m.src n.src) (bi (eqI m.dst n.dst) (bi (eqI m.rune n.rune) true false) false) false=_
  rw [Bool.eq_iff_iff]
  simp only [eqI_eq,bi_eq]
  cases m;cases n
  simp
 have e2:eqlAgg h (.leaves [.int .i64,.int .i64,.int .i32]) (.agg m.cells) (.agg n.cells)=some (keyEqs m.cells n.cells):=rfl
 show ob (eqlAgg h (.leaves [.int .i64,.int .i64,.int .i32]) (.agg m.cells) (.agg n.cells)) (fun r=>some (AVal.bool (!r)))=_
 rw [e2,e,ob_some]
theorem f18 {en' mo':AVal} (hX:IsAuto h en mo X) (hY:IsAuto h en' mo' Y) (H:∀ h',WF h'->Hle h h'->k (.bool (decide (X=Y))) h'):Cf 18 [aV X.states en mo,aV Y.states en' mo'] h k:=by
 refine use_code compiled18 fun hw=>?_
 have hw1:=hw.newCells [.int .i64 X.states,en,mo]
 have le1:=Hle.newCells hw [.int .i64 X.states,en,mo]
 have le2:=le1.trans (Hle.newCells hw1 [.int .i64 Y.states,en',mo'])
 have r0:∀ i,((h.newCells [.int .i64 X.states,en,mo]).newCells [.int .i64 Y.states,en',mo']).read1 h.next i=[.int .i64 X.states,en,mo][i]?:=fun i=>by
  rw [read1_newCells_ne (by simp),read1_newCells]
 have r1:∀ i,((h.newCells [.int .i64 X.states,en,mo]).newCells [.int .i64 Y.states,en',mo']).read1 (h.next+1) i=[.int .i64 Y.states,en',mo'][i]?:=fun i=>by
  rw [show h.next+1=(h.newCells [.int .i64 X.states,en,mo]).next by simp,read1_newCells]
 have fin:∀ b:Bool,(b=true↔X=Y)->WF ((h.newCells [.int .i64 X.states,en,mo]).newCells [.int .i64 Y.states,en',mo'])->k (.bool b) ((h.newCells [.int .i64 X.states,en,mo]).newCells [.int .i64 Y.states,en',mo']):=fun b hb w =>
  kcast (H _ w le2) (by congr 1;rw [Bool.eq_iff_iff,hb];simp)
 simp [fn18,aV]
 refine ap_split (fun hc=>?_) (fun hc=>?_)
 ·simp only [decide_eq_true hc]
  simp
  refine f56 (hX.en.mono le2) (hY.en.mono le2) hX.ne fun w2=>?_
  simp [decide_eq_true hc]
  refine ap_split (fun hd=>?_) (fun hd=>?_)
  ·simp only [decide_eq_true hc,decide_eq_true hd]
   simp [hX.mlen,hY.mlen]
   refine ap_split (fun he=>?_) (fun he=>?_)
   ·simp
    have he:X.moves.length=Y.moves.length:=by omega
    rw [L18_1]
    refine loop_intro (σ:=Nat) (fun i h'=>i<=X.moves.length/\h'=(h.newCells [.int .i64 X.states,en,mo]).newCells [.int .i64 Y.states,en',mo']/\X.moves.take i=Y.moves.take i) (fun i=>[(2,.ptr h.next 0),(3,.ptr (h.next+1) 0),(5,.int .i64 i)]) (fun i=>X.moves.length - i) 0 (by simp) (by simp) ?_
    rintro i h' ⟨hi,rfl,ht⟩
    simp [hX.mlen]
    refine ap_split (fun hf=>?_) (fun hf=>?_)
    ·have hf:i < X.moves.length:=by omega
     have hf':i < Y.moves.length:=by omega
     have a1:=hX.mo.idx (i:=i) (by simpa using hf) .i64
     have b1:=hY.mo.idx (i:=i) (by simpa using hf') .i64
     have a2:=(hX.mo.mono le2).rd (i:=i) (l:=X.moves[i].cells) (by simp [hf])
     have b2:=(hY.mo.mono le2).rd (i:=i) (l:=Y.moves[i].cells) (by simp [hf'])
     simp [a1,b1,a2,b2]
     simp only [move_neq]
     simp
     refine ap_split (fun hg=>?_) (fun hg=>?_)
     ·simp
      rw [wrap64 (by omega) (by have:=hX.nm;omega)]
      refine ⟨i+1,by omega,by omega,by omega,?_⟩
      rw [List.take_succ_eq_append_getElem hf,List.take_succ_eq_append_getElem hf',ht,hg]
     ·simp
      refine fin _ ?_
      simp
      rintro rfl;exact hg rfl
    ·simp
     refine fin _ ?_
     have:X.moves=Y.moves:=by rw [<-List.take_length (l:=X.moves),<-List.take_length (l:=Y.moves),<-he,show X.moves.length=i by omega];exact ht
     cases X;cases Y;simp at hc hd this ⊢;exact ⟨hc,hd,this⟩
   ·simp
    refine fin _ ?_
    simp
    rintro rfl;exact he rfl
  ·simp only [decide_eq_true hc,decide_eq_false hd]
   simp
   refine fin _ ?_
   simp
   rintro rfl;exact hd rfl
 ·simp only [decide_eq_false hc]
  simp
  refine fin _ ?_
  simp
  rintro rfl;exact hc rfl
def named (s:List UInt8):Bool:=decide (1<=s.length/\s.length<=32/\∀ b∈s,97<=b.toNat/\b.toNat<=122)
theorem f130 {s:List UInt8} (H:WF h->k (.bool (named s)) h):Cf 130 [.str s] h k:=by
 refine use_code compiled130 fun hw=>?_
 have fin:∀ b:Bool,(b=true↔(1<=s.length/\s.length<=32/\∀ b∈s,97<=b.toNat/\b.toNat<=122))->WF h->k (.bool b) h:=fun b hb w =>
  kcast (H w) (by unfold named;congr 1;rw [Bool.eq_iff_iff,hb];simp only [decide_eq_true_eq])
 have loop:1<=s.length->s.length<=32->∀ i,i<=s.length->True:=fun _ _ _ _=>trivial
 simp [fn130]
 refine ap_split (fun hc=>?_) (fun hc=>?_)
 ·simp only [decide_eq_true hc]
  simp
  refine fin _ ?_
  simp;omega
 ·simp only [decide_eq_false hc]
  simp
  refine ap_split (fun hd=>?_) (fun hd=>?_)
  ·simp
   refine fin _ ?_
   simp;omega
  ·simp
   rw [L130_1]
   refine loop_intro (σ:=Nat) (fun i h'=>i<=s.length/\h'=h/\∀ b∈s.take i,97<=b.toNat/\b.toNat<=122) (fun i=>[(0,.str s),(3,.int .i64 i)]) (fun i=>s.length - i) 0 (by simp) (by simp) ?_
   rintro i h' ⟨hi,rfl,ht⟩
   simp
   refine ap_split (fun hf=>?_) (fun hf=>?_)
   ·have hf:i < s.length:=by omega
    have i1:=indexS_at hf .i64
    simp [i1]
    refine ap_split (fun hg=>?_) (fun hg=>?_)
    ·simp only [decide_eq_true hg]
     simp
     refine fin _ ?_
     simp
     intro _ _
     exact ⟨s[i],List.getElem_mem hf,fun h=>by omega⟩
    ·simp only [decide_eq_false hg]
     simp [i1]
     refine ap_split (fun hj=>?_) (fun hj=>?_)
     ·simp
      refine fin _ ?_
      simp
      intro _ _
      exact ⟨s[i],List.getElem_mem hf,fun h=>by omega⟩
     ·simp
      rw [wrap64 (by omega) (by omega)]
      refine ⟨i+1,by omega,by omega,by omega,?_⟩
      rw [List.take_succ_eq_append_getElem hf]
      intro b hb
      rcases List.mem_append.1 hb with hb | hb
      ·exact ht b hb
      ·simp at hb;subst hb;omega
   ·simp
    refine fin _ ?_
    simp
    refine ⟨by omega,by omega,?_⟩
    rw [show i=s.length by omega,List.take_length] at ht
    exact ht
end Go.Ab.Z
namespace Go.Ab.Z
open Go Go.Ab
variable {h:AHeap} {k:Post} {fe le en mo to:AVal} {A:PAlpha} {X Y:PAuto} {R:List (List Int)} {E:List Bool}
def number:List PLetter->Int->Nat->Int
 | [],_,_=>-1
 | l :: ls,r,i=>if l.rune=r then i else number ls r (i+1)
theorem number_drop (A:List PLetter) (r:Int) (i:Nat) (hi:i < A.length):number (A.drop i) r i=if A[i].rune=r then (i:Int) else number (A.drop (i+1)) r (i+1):=by
 rw [List.drop_eq_getElem_cons hi];rfl
theorem f76 (hA:IsAlpha h fe le A) {r:Int} (H:∀ h',WF h'->Hle h h'->k (.int .i64 (number A.letters r 0)) h'):Cf 76 [.agg [fe,le],.int .i32 r] h k:=by
 refine use_code compiled76 fun hw=>?_
 have le1:=Hle.newCells hw [fe,le]
 simp [fn76]
 rw [L76_1]
 refine loop_intro (σ:=Nat) (fun i h'=>i<=A.letters.length/\h'=h.newCells [fe,le]/\number A.letters r 0=number (A.letters.drop i) r i) (fun i=>[(1,.int .i32 r),(2,.ptr h.next 0),(5,.int .i64 i)]) (fun i=>A.letters.length - i) 0 (by simp) (by simp) ?_
 rintro i h' ⟨hi,rfl,he⟩
 simp [hA.llen]
 refine ap_split (fun hc=>?_) (fun hc=>?_)
 ·have hc:i < A.letters.length:=by omega
  have h1:=hA.le.idx (i:=i) (by simpa using hc) .i64
  have h2:=(hA.le.mono le1).rd1_0 (i:=i) (l:=A.letters[i].cells) (by simp [hc]) rfl
  simp [h1,h2]
  rw [number_drop _ r i hc] at he
  refine ap_split (fun hd=>?_) (fun hd=>?_)
  ·rw [if_pos hd] at he
   simp
   intro w
   rw [<-he]
   exact H _ w le1
  ·rw [if_neg hd] at he
   simp
   rw [wrap64 (by omega) (by have:=hA.nl;omega)]
   exact ⟨i+1,by omega,by omega,by omega,he⟩
 ·simp
  intro w
  have:number A.letters r 0=-1:=by rw [he,List.drop_eq_nil_of_le (by omega)];rfl
  rw [<-this]
  exact H _ w le1
theorem f75 {n:Nat} (hn:n<=1048576) (H:∀ h',WF h'->Hle h h'->h'.next=h.next+1->Blk h' h.next (List.replicate n (vI (-1)))->k (.slice h.next 0 n n 1) h'):Cf 75 [.int .i64 (n:Int)] h k:=by
 refine use_code compiled75 fun hw=>?_
 simp [fn75,repeatL_one]
 rw [decide_eq_true (by omega:n<=16777216)]
 simp
 rw [L75_1]
 refine loop_intro (σ:=Nat) (fun i h'=>i<=n/\WF h'/\Hle h h'/\h'.next=h.next+1/\Blk h' h.next (List.replicate i (vI (-1))++List.replicate (n - i) (vI 0))) (fun i=>[(0,.int .i64 n),(3,.slice h.next 0 n n 1),(4,.int .i64 i)]) (fun i=>n - i) 0 (by simp) ?_ ?_
 ·have:=Blk.new h (List.replicate n (vI 0))
  exact ⟨by omega,hw.newCells _,Hle.newCells hw _,by simp,by rw [List.replicate_zero,List.nil_append,Nat.sub_zero];exact this⟩
 ·rintro i h' ⟨hi,hw',le',hn',hb⟩
  simp
  refine ap_split (fun hc=>?_) (fun hc=>?_)
  ·have hc:i < n:=by omega
   obtain ⟨h'',e1,e2,e3⟩:=hb.write1 (i:=i) (c:=vI (-1)) (by simp;omega) rfl
   simp [indexAddrS,Nat.succ_le_iff,hc]
   rw [show (AVal.int IntKind.i64 (-1))=vI (-1) from rfl,e1]
   simp
   rw [wrap64 (by omega) (by omega)]
   refine ⟨i+1,by omega,by omega,by omega,e3.wf hw' (by omega),e3.hle le' hw (Nat.le_refl _),by rw [e3.next];exact hn',?_⟩
   have:(List.replicate i (vI (-1))++List.replicate (n - i) (vI 0)).set i (vI (-1))=List.replicate (i+1) (vI (-1))++List.replicate (n - (i+1)) (vI 0):=by
    apply List.ext_getElem?
    intro j
    rw [List.getElem?_set]
    by_cases h1:i=j
    ·subst h1;simp;rw [if_pos (by omega)];rw [List.getElem?_append_left (by simp)];simp
    ·rw [if_neg h1]
     by_cases h2:j < i
     ·rw [List.getElem?_append_left (by simpa using h2),List.getElem?_append_left (by simp;omega)]
      simp [h2,show j < i+1 by omega]
     ·rw [List.getElem?_append_right (by simp;omega),List.getElem?_append_right (by simp;omega)]
      simp only [List.getElem?_replicate,List.length_replicate]
      congr 1
      apply propext;omega
   rw [this] at e2
   exact e2
  ·have:i=n:=by omega
   subst this
   simp
   intro w
   exact H _ w le' hn' (by simpa using hb)
def tblOf (s:List UInt8):List AVal:=(List.range 256).map fun j=>.bool (decide (j∈s.map UInt8.toNat))
theorem tblOf_len (s:List UInt8):(tblOf s).length=256:=by simp [tblOf]
theorem tblOf_get (s:List UInt8) (b:UInt8):(tblOf s)[b.toNat]?=some (.bool (decide (b∈s))):=by
 have hb:b.toNat < 256:=b.toNat_lt
 unfold tblOf
 rw [List.getElem?_map,List.getElem?_range hb]
 simp only [Option.map_some,Option.some.injEq,AVal.bool.injEq,decide_eq_decide,List.mem_map]
 constructor
 ·rintro ⟨c,h1,h2⟩;rw [<-UInt8.toNat_inj.1 h2];exact h1
 ·intro h1;exact ⟨b,h1,rfl⟩
theorem tblOf_nil:tblOf []=List.replicate 256 (.bool false):=by
 apply List.ext_getElem?
 intro i
 unfold tblOf
 by_cases hi:i < 256
 ·rw [List.getElem?_map,List.getElem?_range hi,List.getElem?_replicate,if_pos hi];rfl
 ·rw [List.getElem?_eq_none (by rw [List.length_map,List.length_range];omega),List.getElem?_eq_none (by rw [List.length_replicate];omega)]
theorem tblOf_set (s:List UInt8) (b:UInt8):(tblOf s).set b.toNat (.bool true)=tblOf (s++[b]):=by
 have hb:b.toNat < 256:=b.toNat_lt
 apply List.ext_getElem?
 intro i
 rw [List.getElem?_set]
 by_cases hi:i < 256
 ·unfold tblOf
  rw [List.getElem?_map,List.getElem?_map,List.getElem?_range hi]
  by_cases h:b.toNat=i
  ·rw [if_pos h,if_pos (by simpa using hb)];simp [h]
  ·rw [if_neg h];simp [Ne.symm h]
 ·rw [if_neg (by omega),List.getElem?_eq_none (by simp [tblOf_len];omega),List.getElem?_eq_none (by simp [tblOf_len];omega)]
theorem f214 {b:Nat} {s:List UInt8} (hb:Blk h b (tblOf s)) (c:UInt8) (H:WF h->k (.bool (decide (c∈s))) h):Cf 214 [.ptr b 0,.int .u8 (c.toNat:Int)] h k:=by
 refine use_code compiled214 fun hw=>?_
 have hc:c.toNat < 256:=c.toNat_lt
 have r:=hb.rd1 (tblOf_get s c)
 simp [fn214,nilCheckA,indexAddrA,Nat.succ_le_iff,hc,r]
 exact H
theorem f189 {s:List UInt8} (hs:∀ b∈s,b.toNat < 128) (hn:s.length<=1048576) (H:∀ h',WF h'->Hle h h'->k (.tup [.agg (tblOf s),.bool true]) h'):Cf 189 [.str s] h k:=by
 refine use_code compiled189 fun hw=>?_
 simp [fn189,-List.reduceReplicate]
 rw [L189_1]
 refine loop_intro (σ:=Nat) (fun i h'=>i<=s.length/\WF h'/\Hle h h'/\h'.next=h.next+1/\Blk h' h.next (tblOf (s.take i))) (fun i=>[(0,.str s),(2,.ptr h.next 0),(4,.int .i64 i)]) (fun i=>s.length - i) 0 (by simp) ?_ ?_
 ·have:=Blk.new h (List.replicate 256 (.bool false))
  exact ⟨by omega,hw.newCells _,Hle.newCells hw _,rfl,by rw [List.take_zero,tblOf_nil];exact this⟩
 ·rintro i h' ⟨hi,hw',le',hn',hb⟩
  simp
  refine ap_split (fun hc=>?_) (fun hc=>?_)
  ·have hc:i < s.length:=by omega
   have e0:=indexS_at hc .i64
   have hl:=hs s[i] (List.getElem_mem hc)
   obtain ⟨h'',e1,e2,e3⟩:=hb.write1 (i:=s[i].toNat) (c:=.bool true) (by rw [tblOf_len];exact s[i].toNat_lt) rfl
   simp [e0]
   rw [decide_eq_true (by omega:(s[i].toNat:Int) < 128)]
   simp [indexAddrA,Nat.succ_le_iff,show s[i].toNat < 256 by omega,e1]
   rw [wrap64 (by omega) (by omega)]
   refine ⟨i+1,by omega,by omega,by omega,e3.wf hw' (by omega),e3.hle le' hw (Nat.le_refl _),by rw [e3.next];exact hn',?_⟩
   rw [tblOf_set] at e2
   rw [List.take_succ_eq_append_getElem hc]
   exact e2
  ·have:i=s.length:=by omega
   subst this
   rw [List.take_length] at hb
   have r:=hb.rd (off:=0) (n:=256) (l:=tblOf s) (by rw [tblOf_len];omega) (by rw [List.drop_zero,<-tblOf_len s,List.take_length])
   have ho:allOne (tblOf s)=true:=by
    have:∀ l:List AVal,(∀ v∈l,oneA v=true)->allOne l=true:=by
     intro l
     induction l with
     | nil=>intro _;rfl
     | cons v l ih=>intro h;show bi (oneA v) (allOne l) false=true;rw [h v (by simp),bi_true];exact ih fun u hu=>h u (by simp [hu])
    exact this _ fun v hv=>by
     unfold tblOf at hv
     obtain ⟨j,_,rfl⟩:=List.mem_map.1 hv
     rfl
   obtain ⟨h'',e1,e2,e3⟩:=hb.write (off:=0) (vs:=tblOf s) (by rw [tblOf_len];omega) ho
   have e2:Blk h'' h.next (tblOf s):=by
    rw [Nat.zero_add,List.take_zero,List.drop_length,List.nil_append,List.append_nil] at e2;exact e2
   have r2:=e2.rd (off:=0) (n:=256) (l:=tblOf s) (by rw [tblOf_len];omega) (by rw [List.drop_zero,<-tblOf_len s,List.take_length])
   simp [r,tblOf_len,e1,r2]
   intro w
   exact H _ w (e3.hle le' hw (Nat.le_refl _))
@[simp] theorem sliceA_str (s:List UInt8) (lo hi:Option AVal) (h:AHeap):sliceA .str (.str s) lo hi none h=ob (bound lo 0) fun l=>ob (bound hi s.length) fun u=>bi (Nat.ble l u && Nat.ble u s.length) (some (.str ((s.take u).drop l))) none:=(rfl)
@[simp] theorem bound_none (d:Nat):bound none d=some d:=(rfl)
@[simp] theorem bound_some (v:AVal) (d:Nat):bound (some v) d=onNat v some:=(rfl)
theorem f190 {b:Nat} {c:List UInt8} (hb:Blk h b (tblOf c)) {s:List UInt8} (hn:s.length<=1048576)
  (H:∀ n,n<=s.length->(∀ i (hi:i < s.length),i < n->s[i]∈c)->(∀ hi:n < s.length,s[n]∉c)->WF h->k (.str (s.drop n)) h):Cf 190 [.str s,.ptr b 0] h k:=by
 refine use_code compiled190 fun hw=>?_
 simp [fn190]
 rw [L190_1]
 refine loop_intro (σ:=Nat) (fun i h'=>i<=s.length/\h'=h/\∀ j (hj:j < s.length),j < i->s[j]∈c) (fun i=>[(0,.str (s.drop i)),(1,.ptr b 0)]) (fun i=>s.length - i) 0 (by simp) (by simp) ?_
 rintro i h' ⟨hi,rfl,ht⟩
 simp
 refine ap_split (fun hc=>?_) (fun hc=>?_)
 ·have hc:i < s.length:=by omega
  have e0:indexS (.str (s.drop i)) (.int .i64 0)=some (.int .u8 (s[i].toNat:Int)):=by
   have:=indexS_at (s:=s.drop i) (i:=0) (by simp;omega) .i64
   simpa using this
  simp [e0]
  refine f214 hb s[i] fun w=>?_
  simp
  refine ap_split (fun hd=>?_) (fun hd=>?_)
  ·simp
   rw [decide_eq_true (by omega:1<=s.length - i)]
   simp
   refine ⟨i+1,by omega,?_,by omega,fun j hj hji=>?_⟩
   ·rw [<-List.length_drop,List.take_length,List.tail_drop]
   ·by_cases e:j=i
    ·subst e;exact hd
    ·exact ht j hj (by omega)
  ·simp
   intro w
   exact H i hi (fun j hj=>ht j hj) (fun _=>hd) w
 ·simp
  intro w
  exact H i hi (fun j hj=>ht j hj) (fun hh=>by omega) w
theorem f191 {b:Nat} {c:List UInt8} (hb:Blk h b (tblOf c)) {s:List UInt8} (hn:s.length<=1048576)
  (H:∀ n,n<=s.length->(∀ i (hi:i < s.length),n<=i->s[i]∈c)->(∀ m (hm:m < s.length),n=m+1->s[m]∉c)->WF h->k (.str (s.take n)) h):Cf 191 [.str s,.ptr b 0] h k:=by
 refine use_code compiled191 fun hw=>?_
 simp [fn191]
 rw [L191_1]
 refine loop_intro (σ:=Nat) (fun i h'=>i<=s.length/\h'=h/\∀ j (hj:j < s.length),i<=j->s[j]∈c) (fun i=>[(0,.str (s.take i)),(1,.ptr b 0)]) (fun i=>i) s.length (by simp) ?_ ?_
 ·exact ⟨Nat.le_refl _,rfl,fun j hj h=>by omega⟩
 rintro i h' ⟨hi,rfl,ht⟩
 have hlen:(s.take i).length=i:=by simp;omega
 simp [-List.length_take]
 simp only [hlen]
 refine ap_split (fun hc=>?_) (fun hc=>?_)
 ·have hc:0 < i:=by omega
  have e0:indexS (.str (s.take i)) (.int .i64 ((i - 1:Nat):Int))=some (.int .u8 (s[i-1].toNat:Int)):=by
   have:=indexS_at (s:=s.take i) (i:=i - 1) (by rw [hlen];omega) .i64
   rw [this];simp
  have e1:wrapF .i64 ((i:Int) - 1)=((i - 1:Nat):Int):=by rw [wrap64 (by omega) (by omega)];omega
  simp [-List.length_take,hlen,e1,e0]
  refine f214 hb s[i-1] fun w=>?_
  simp
  refine ap_split (fun hd=>?_) (fun hd=>?_)
  ·simp [-List.length_take,hlen,e1]
   refine ⟨i - 1,by omega,?_,by omega,fun j hj hji=>?_⟩
   ·rw [List.take_take,Nat.min_eq_left (by omega)]
   ·by_cases e:j=i - 1
    ·subst e;exact hd
    ·exact ht j hj (by omega)
  ·simp
   intro w
   exact H i hi (fun j hj=>ht j hj) (fun m hm e=>by subst e;exact hd) w
 ·simp
  intro w
  exact H i hi (fun j hj=>ht j hj) (fun m hm e=>by omega) w
def lowerL:List UInt8:=[97,98,99,100,101,102,103,104,105,106,107,108,109,110,111,112,113,114,115,116,117,118,119,120,121,122]
theorem lower_mem (b:UInt8):b∈lowerL↔97<=b.toNat/\b.toNat<=122:=by
 simp only [lowerL,List.mem_cons,List.not_mem_nil,or_false,<-UInt8.toNat_inj]
 simp only [show ∀ n:Nat,(OfNat.ofNat n:UInt8).toNat=n % 256 from fun n=>rfl]
 omega
theorem f161 {s:List UInt8} (hn:s.length<=1048576) (H:∀ h' r,WF h'->Hle h h'->(r=[]↔∀ b∈s,b∈lowerL)->k (.str r) h'):Cf 161 [.str s,.str lowerL] h k:=by
 refine use_code compiled161 fun hw=>?_
 simp [fn161,-List.reduceReplicate]
 refine ap_split (fun hc=>?_) (fun hc=>?_)
 ·simp only [decide_eq_true hc]
  simp [-List.reduceReplicate]
  intro w
  subst hc
  exact H _ _ w (Hle.refl _) (by simp)
 ·simp only [decide_eq_false hc]
  simp [-List.reduceReplicate,show lowerL≠[] from by simp [lowerL],show lowerL.length=26 from rfl]
  refine f189 (s:=lowerL) (fun b hb=>by have:=(lower_mem b).1 hb;omega) (by simp [lowerL]) fun h1 w1 le1=>?_
  have w2:=w1.newCells (List.replicate 256 (.bool false))
  have v2:=Blk.new h1 (List.replicate 256 (.bool false))
  have ho:allOne (tblOf lowerL)=true:=by
   have:∀ l:List AVal,(∀ v∈l,oneA v=true)->allOne l=true:=by
    intro l
    induction l with
    | nil=>intro _;rfl
    | cons v l ih=>intro h;show bi (oneA v) (allOne l) false=true;rw [h v (by simp),bi_true];exact ih fun u hu=>h u (by simp [hu])
   exact this _ fun v hv=>by
    unfold tblOf at hv
    obtain ⟨j,_,rfl⟩:=List.mem_map.1 hv
    rfl
  have key:∀ (n:Nat) (vs:List AVal) (hh:AHeap),Blk hh h1.next (List.replicate n (.bool false))->vs.length=n->allOne vs=true->∃ h3,hh.write h1.next 0 vs=some h3/\Blk h3 h1.next vs/\But h1.next hh h3:=by
   intro n vs hh v hv ho
   obtain ⟨h3,e1,e2,e3⟩:=v.write (off:=0) (vs:=vs) (by simp [hv]) ho
   refine ⟨h3,e1,?_,e3⟩
   rw [Nat.zero_add,List.take_zero,List.nil_append,List.drop_eq_nil_of_le (by simp [hv]),List.append_nil] at e2;exact e2
  have hlen:=tblOf_len lowerL
  generalize htb:tblOf lowerL=tb at *
  obtain ⟨h3,e1,e2,e3⟩:=key 256 tb _ v2 hlen ho
  have le3:Hle h h3:=le1.trans (e3.hle (Hle.newCells w1 _) w1 (Nat.le_refl _))
  simp [-List.reduceReplicate,hlen,e1]
  subst htb
  refine f191 e2 hn fun n hn1 hn2 hn3 w3=>?_
  simp
  refine f190 e2 (by simp;omega) fun m hm1 hm2 hm3 w4=>?_
  simp
  intro w5
  refine H _ _ w5 le3 ?_
  constructor
  ·intro e b hb
   obtain ⟨i,hi,rfl⟩:=List.getElem_of_mem hb
   by_cases hin:n<=i
   ·exact hn2 i hi hin
   ·have e':n<=m:=by
     have:=congrArg List.length e
     simp at this;omega
    have:=hm2 i (by simp;omega) (by omega)
    simpa using this
  ·intro hall
   have h0:n=0:=by
    cases n with
    | zero=>rfl
    | succ n=>exact absurd (hall _ (List.getElem_mem (by omega))) (hn3 n (by omega) rfl)
   subst h0;simp
theorem f124 {s:List UInt8} (hn:s.length<=1048576) (H:∀ h',WF h'->Hle h h'->k (.bool (named s)) h'):Cf 124 [.str s] h k:=by
 refine use_code compiled124 fun hw=>?_
 have fin:∀ h' b,Hle h h'->(b=true↔(1<=s.length/\s.length<=32/\∀ b∈s,97<=b.toNat/\b.toNat<=122))->WF h'->k (.bool b) h':=fun h' b le hb w =>
  kcast (H _ w le) (by unfold named;congr 1;rw [Bool.eq_iff_iff,hb];simp only [decide_eq_true_eq])
 simp [fn124]
 refine ap_split (fun hc=>?_) (fun hc=>?_)
 ·simp only [decide_eq_true hc]
  simp
  refine fin _ _ (Hle.refl _) ?_
  subst hc;simp
 ·simp only [decide_eq_false hc]
  simp
  refine ap_split (fun hd=>?_) (fun hd=>?_)
  ·simp only [decide_eq_true hd]
   simp
   refine fin _ _ (Hle.refl _) ?_
   simp;omega
  ·simp only [decide_eq_false hd]
   simp
   refine f161 hn fun h' r w le hr=>?_
   simp
   refine fin _ _ le ?_
   simp only [decide_eq_true_eq,hr,lower_mem]
   have:1<=s.length:=by cases s with | nil=>exact absurd rfl hc | cons _ _=>simp
   exact ⟨fun h=>⟨this,by omega,h⟩,fun h=>h.2.2⟩
end Go.Ab.Z
namespace Go.Ab.Z
open Go Go.Ab
variable {h:AHeap} {k:Post} {fe le en mo to:AVal} {A:PAlpha} {X Y:PAuto} {R:List (List Int)} {E:List Bool}
def sizeOk (A:PAlpha):Prop:=A.features.length<=24/\1<=A.letters.length/\A.letters.length<=128
def featOk (fs:List (List UInt8)):Prop:=(∀ f∈fs,named f=true)/\fs.Nodup
def lettOk (n:Nat) (ls:List PLetter):Prop:=(∀ l∈ls,mayRune l.rune=true/\mayClass n l.plus l.minus=true)/\(ls.map PLetter.rune).Nodup
def AlphaOk (A:PAlpha):Prop:=sizeOk A/\featOk A.features/\lettOk A.features.length A.letters
open Classical in
noncomputable def alphaE (A:PAlpha):Int:=if AlphaOk A then 0 else 7
theorem featOk_snoc (fs:List (List UInt8)) (f:List UInt8):featOk (fs++[f])↔featOk fs/\named f=true/\f∉fs:=by
 unfold featOk
 rw [List.nodup_append]
 simp only [List.mem_append,List.mem_singleton,List.nodup_cons,List.not_mem_nil,not_false_eq_true,List.nodup_nil,and_true,true_and]
 constructor
 ·rintro ⟨h1,h2,h3⟩;exact ⟨⟨fun g hg=>h1 g (.inl hg),h2⟩,h1 f (.inr rfl),fun hf=>h3 f hf f rfl rfl⟩
 ·rintro ⟨⟨h1,h2⟩,h3,h4⟩
  exact ⟨fun g hg=>hg.elim (h1 g) fun e=>e ▸ h3,h2,fun a ha b hb e=>h4 (by rw [<-hb,<-e];exact ha)⟩
theorem lettOk_snoc (n:Nat) (ls:List PLetter) (l:PLetter):lettOk n (ls++[l])↔lettOk n ls/\(mayRune l.rune=true/\mayClass n l.plus l.minus=true)/\l.rune∉ls.map PLetter.rune:=by
 unfold lettOk
 rw [List.map_append,List.nodup_append]
 simp only [List.mem_append,List.mem_singleton,List.map_cons,List.map_nil,List.nodup_cons,List.not_mem_nil,not_false_eq_true,List.nodup_nil,and_true,true_and]
 constructor
 ·rintro ⟨h1,h2,h3⟩;exact ⟨⟨fun g hg=>h1 g (.inl hg),h2⟩,h1 l (.inr rfl),fun hf=>h3 _ hf _ rfl rfl⟩
 ·rintro ⟨⟨h1,h2⟩,h3,h4⟩
  exact ⟨fun g hg=>hg.elim (h1 g) fun e=>e ▸ h3,h2,fun a ha b hb e=>h4 (by rw [<-hb,<-e];exact ha)⟩
theorem featOk_take {fs:List (List UInt8)} (h:featOk fs) (i:Nat):featOk (fs.take i):=⟨fun f hf=>h.1 f (List.mem_of_mem_take hf),h.2.sublist (List.take_sublist _ _)⟩
theorem lettOk_take {n:Nat} {ls:List PLetter} (h:lettOk n ls) (i:Nat):lettOk n (ls.take i):=⟨fun f hf=>h.1 f (List.mem_of_mem_take hf),h.2.sublist ((List.take_sublist _ _).map _)⟩
def featB (fs:List (List UInt8)) (f:List UInt8) (j:Nat):Bool:=named f && decide (f∉fs.take j)
theorem featB_zero (fs:List (List UInt8)) (f:List UInt8):featB fs f 0=named f:=by simp [featB]
theorem featB_succ {fs:List (List UInt8)} {j:Nat} (hj:j < fs.length) (f:List UInt8):featB fs f (j+1)=(featB fs f j && !decide (fs[j]=f)):=by
 unfold featB
 rw [List.take_succ_eq_append_getElem hj,Bool.eq_iff_iff]
 simp only [Bool.and_eq_true,decide_eq_true_eq,List.mem_append,List.mem_singleton,not_or,Bool.not_eq_true',decide_eq_false_iff_not]
 exact ⟨fun ⟨h1,h2,h3⟩=>⟨⟨h1,h2⟩,fun e=>h3 e.symm⟩,fun ⟨⟨h1,h2⟩,h3⟩=>⟨h1,h2,fun e=>h3 e.symm⟩⟩
theorem featB_iff {fs:List (List UInt8)} {f:List UInt8} {j:Nat}:featB fs f j=true↔named f=true/\f∉fs.take j:=by simp [featB]
def lettB (n:Nat) (ls:List PLetter) (l:PLetter) (j:Nat):Bool:=(mayRune l.rune && mayClass n l.plus l.minus) && decide (l.rune∉(ls.take j).map PLetter.rune)
theorem lettB_zero (n:Nat) (ls:List PLetter) (l:PLetter):lettB n ls l 0=(mayRune l.rune && mayClass n l.plus l.minus):=by simp [lettB]
theorem lettB_succ {n:Nat} {ls:List PLetter} {j:Nat} (hj:j < ls.length) (l:PLetter):lettB n ls l (j+1)=(lettB n ls l j && !decide (ls[j].rune=l.rune)):=by
 unfold lettB
 rw [List.take_succ_eq_append_getElem hj,Bool.eq_iff_iff]
 simp only [Bool.and_eq_true,decide_eq_true_eq,List.map_append,List.map_cons,List.map_nil,List.mem_append,List.mem_singleton,not_or,Bool.not_eq_true',decide_eq_false_iff_not]
 exact ⟨fun ⟨h1,h2,h3⟩=>⟨⟨h1,h2⟩,fun e=>h3 e.symm⟩,fun ⟨⟨h1,h2⟩,h3⟩=>⟨h1,h2,fun e=>h3 e.symm⟩⟩
theorem lettB_iff {n:Nat} {ls:List PLetter} {l:PLetter} {j:Nat}:lettB n ls l j=true↔(mayRune l.rune=true/\mayClass n l.plus l.minus=true)/\l.rune∉(ls.take j).map PLetter.rune:=by
 unfold lettB;simp only [Bool.and_eq_true,decide_eq_true_eq]
theorem f73_tail {kn:Kn} {kx:Kx} {kr:Kn} {T:PT AVal} {b1 b7:Nat} {l:PLetter} {i:Nat} (hA:IsAlpha h fe le A) (v1:Blk h b1 [fe,le]) (v7:Blk h b7 l.cells) (hi:i < A.letters.length)
  (hT:Has T [(1,.ptr b1 0),(6,.int .i64 i),(7,.ptr b7 0),(8,.bool (lettB A.features.length A.letters l 0))])
  (good:lettB A.features.length A.letters l i=true->∀ T',Has T' [(1,.ptr b1 0),(6,.int .i64 i)]->kn T' h) (bad:lettB A.features.length A.letters l i=false->∀ T',Has T' [(2,.int .i64 7)]->kr T' h) :
  run lpI c73_47 Cf kn kx kr T h:=by
 simp at hT
 obtain ⟨t1,t6,t7,t8⟩:=hT
 simp
 rw [L73_4]
 refine loop_intro (σ:=Nat) (fun j h'=>j<=i/\h'=h) (fun j=>[(1,.ptr b1 0),(6,.int .i64 i),(7,.ptr b7 0),(8,.bool (lettB A.features.length A.letters l j)),(9,.int .i64 j)]) (fun j=>i - j) 0 (by simp [PT.get_put,t1,t6,t7,t8]) (by simp) ?_
 rintro j h' ⟨hj,rfl⟩
 simp
 refine ap_split (fun hm=>?_) (fun hm=>?_)
 ·have hm:j < i:=by omega
  have r1:=v1.rd1 (i:=1) (c:=le) rfl
  have r7:=v7.rd1 (i:=0) (c:=.int .i32 l.rune) rfl
  have a1:=hA.le.idx (i:=j) (by simp only [List.length_map];omega) .i64
  have a2:=hA.le.rd1_0 (i:=j) (l:=A.letters[j].cells) (map_getElem? (by omega)) rfl
  have bs:=lettB_succ (n:=A.features.length) (ls:=A.letters) (j:=j) (by omega) l
  have hn:=hA.nl
  simp
  refine ap_cases (fun hq=>?_) (fun hq=>?_)
  ·simp only [hq]
   simp [a1,a2,r1,r7]
   rw [wrap64 (by omega) (by omega)]
   refine ⟨j+1,by omega,?_,by omega⟩
   rw [bs,hq]
   simp
  ·simp only [hq]
   simp
   rw [wrap64 (by omega) (by omega)]
   refine ⟨j+1,by omega,?_,by omega⟩
   rw [bs,hq]
   simp
 ·have hm:j=i:=by omega
  subst hm
  simp
  refine ap_cases (fun hq=>?_) (fun hq=>?_)
  ·simp
   exact good hq _ (by simp)
  ·simp
   exact bad hq _ (by simp)
theorem f73 (hA:IsAlpha h fe le A) (H:∀ h',WF h'->Hle h h'->k (.int .i64 (alphaE A)) h'):Cf 73 [.agg [fe,le]] h k:=by
 refine use_code compiled73 fun hw=>?_
 have le1:=Hle.newCells hw [fe,le]
 have hw1:=hw.newCells [fe,le]
 have v1:=Blk.new h [fe,le]
 have bad:∀ h',¬ AlphaOk A->Hle h h'->WF h'->k (.int .i64 7) h':=fun h' hb le w=>by
  have:=H h' w le;unfold alphaE at this;rwa [if_neg hb] at this
 have good:∀ h',AlphaOk A->Hle h h'->WF h'->k (.int .i64 0) h':=fun h' hb le w=>by
  have:=H h' w le;unfold alphaE at this;rwa [if_pos hb] at this
 simp [fn73,hA.flen]
 refine ap_split (fun hc=>?_) (fun hc=>?_)
 ·simp only [decide_eq_true hc]
  simp
  exact bad _ (fun h=>by have:=h.1.1;omega) le1
 simp only [decide_eq_false hc]
 simp [hA.llen]
 refine ap_split (fun hd=>?_) (fun hd=>?_)
 ·simp only [decide_eq_true hd]
  simp
  exact bad _ (fun h=>by have:=h.1.2;omega) le1
 simp only [decide_eq_false hd]
 simp [hA.llen]
 refine ap_split (fun hf=>?_) (fun hf=>?_)
 ·simp
  exact bad _ (fun h=>by have:=h.1.2;omega) le1
 have hs:sizeOk A:=⟨by omega,by omega,by omega⟩
 simp
 rw [L73_1]
 refine loop_intro (σ:=Nat) (fun i h'=>i<=A.features.length/\h'=h.newCells [fe,le]/\featOk (A.features.take i)) (fun i=>[(1,.ptr h.next 0),(3,.int .i64 i)]) (fun i=>A.features.length - i) 0 (by simp) ?_ ?_
 ·exact ⟨by omega,rfl,by simp [featOk]⟩
 rintro i h' ⟨hi,rfl,ht⟩
 simp [hA.flen]
 refine ap_split (fun hg=>?_) (fun hg=>?_)
 ·have hg:i < A.features.length:=by omega
  have a1:=hA.fe.idx (i:=i) (by simpa using hg) .i64
  have a2:=(hA.fe.mono le1).rd (i:=i) (c:=.str A.features[i]) (by simp [hg])
  simp [a1,a2]
  refine f130 fun w=>?_
  simp
  rw [L73_2]
  refine loop_intro (σ:=Nat) (fun j h'=>j<=i/\h'=h.newCells [fe,le]) (fun j=>[(1,.ptr h.next 0),(3,.int .i64 i),(4,.bool (featB A.features A.features[i] j)),(5,.int .i64 j)]) (fun j=>i - j) 0 (by simp [featB_zero]) (by simp) ?_
  rintro j h' ⟨hj,rfl⟩
  simp
  refine ap_split (fun hm=>?_) (fun hm=>?_)
  ·have hm:j < i:=by omega
   have b1:=hA.fe.idx (i:=j) (by simp only [List.length_map];omega) .i64
   have b2:=(hA.fe.mono le1).rd (i:=j) (c:=.str A.features[j]) (map_getElem? (by omega))
   have bs:=featB_succ (fs:=A.features) (j:=j) (by omega) A.features[i]
   simp
   refine ap_cases (fun hq=>?_) (fun hq=>?_)
   ·simp only [hq]
    simp [a1,a2,b1,b2]
    rw [wrap64 (by omega) (by omega)]
    refine ⟨j+1,by omega,?_,by omega⟩
    rw [bs,hq]
    simp
   ·simp only [hq]
    simp
    rw [wrap64 (by omega) (by omega)]
    refine ⟨j+1,by omega,?_,by omega⟩
    rw [bs,hq]
    simp
  ·have hm:j=i:=by omega
   subst hm
   simp
   refine ap_cases (fun hq=>?_) (fun hq=>?_)
   ·simp
    rw [wrap64 (by omega) (by omega)]
    refine ⟨j+1,by omega,by omega,by omega,?_⟩
    rw [List.take_succ_eq_append_getElem hg,featOk_snoc]
    exact ⟨ht,featB_iff.1 hq⟩
   ·simp
    refine bad _ (fun hh=>?_) le1
    have:=featOk_take hh.2.1 (j+1)
    rw [List.take_succ_eq_append_getElem hg,featOk_snoc] at this
    rw [featB_iff.2 this.2] at hq
    cases hq
 ·have:i=A.features.length:=by omega
  subst this
  rw [List.take_length] at ht
  simp
  rw [L73_3]
  refine loop_by (σ:=Nat) (fun i h'=>i<=A.letters.length/\WF h'/\Hle (h.newCells [fe,le]) h'/\lettOk A.features.length (A.letters.take i)) (fun i=>[(1,.ptr h.next 0),(6,.int .i64 i)]) (fun i=>A.letters.length - i) 0 (by simp) ?_ ?_
  ·exact ⟨by omega,hw1,Hle.refl _,by simp [lettOk]⟩
  rintro i h' K ⟨hi,hw',le',hl⟩ hK
  have r0:=(v1.mono le').rd1 (i:=0) (c:=fe) rfl
  have r1:=(v1.mono le').rd1 (i:=1) (c:=le) rfl
  simp [r1,hA.llen]
  refine ap_split (fun hg=>?_) (fun hg=>?_)
  ·have hg:i < A.letters.length:=by omega
   have hlo:=hA.ok A.letters[i] (List.getElem_mem hg)
   have a1:=hA.le.idx (i:=i) (by simpa using hg) .i64
   have a2:=(hA.le.mono (le1.trans le')).rd (i:=i) (l:=A.letters[i].cells) (by simp [hg])
   obtain ⟨h2,w1,w2,w3⟩:=(Blk.new h' [.int .i32 0,.int .u32 0,.int .u32 0]).write (off:=0) (vs:=A.letters[i].cells) (by simp) rfl
   simp at w2
   have le2:Hle h' h2:=w3.hle (Hle.newCells hw' _) hw' (Nat.le_refl _)
   have hw2:WF h2:=w3.wf (hw'.newCells _) (by simp)
   have c0:=w2.rd1 (i:=0) (c:=.int .i32 A.letters[i].rune) rfl
   have w1':(h'.newCells [.int .i32 0,.int .u32 0,.int .u32 0]).write h'.next 0 [.int .i32 A.letters[i].rune,.int .u32 A.letters[i].plus,.int .u32 A.letters[i].minus]=some h2:=w1
   simp [r1,a1,a2,w1',c0]
   refine f131 fun w=>?_
   have c1:=w2.rd1 (i:=1) (c:=.int .u32 A.letters[i].plus) rfl
   have c2:=w2.rd1 (i:=2) (c:=.int .u32 A.letters[i].minus) rfl
   have rr:=(v1.mono (le'.trans le2)).rd (off:=0) (n:=2) (l:=[fe,le]) (by simp) rfl
   simp
   refine ap_cases (fun hq=>?_) (fun hq=>?_)
   ·simp [hq,rr,c1,c2]
    refine f132 (hA.mono (le1.trans (le'.trans le2))) (by omega) hlo.2.1 hlo.2.2 fun h3 w3 le3=>?_
    simp [hq,-x73_47]
    have lee:=le1.trans (le'.trans (le2.trans le3))
    refine f73_tail (hA.mono lee) (v1.mono (le'.trans (le2.trans le3))) (w2.mono le3) hg (by simp [lettB_zero,hq]) (fun hq T' hT'=>?_) (fun hq T' hT'=>?_)
    ·simp at hT'
     simp [hT',PT.get_put]
     rw [wrap64 (by omega) (by have:=hA.nl;omega)]
     refine hK (i+1) _ _ (by omega) (by simp [hT',PT.get_put]) ⟨by omega,w3,le'.trans (le2.trans le3),?_⟩
     rw [List.take_succ_eq_append_getElem hg,lettOk_snoc]
     exact ⟨hl,lettB_iff.1 hq⟩
    ·simp at hT'
     simp [hT']
     refine bad _ (fun hh=>?_) lee
     have:=lettOk_take hh.2.2 (i+1)
     rw [List.take_succ_eq_append_getElem hg,lettOk_snoc] at this
     rw [lettB_iff.2 this.2] at hq
     cases hq
   ·simp [hq,-x73_47]
    have lee:=le1.trans (le'.trans (le2.trans (Hle.refl _)))
    refine f73_tail (hA.mono lee) (v1.mono (le'.trans (le2.trans (Hle.refl _)))) (w2.mono (Hle.refl _)) hg (by simp [lettB_zero,hq]) (fun hq T' hT'=>?_) (fun hq T' hT'=>?_)
    ·simp at hT'
     simp [hT',PT.get_put]
     rw [wrap64 (by omega) (by have:=hA.nl;omega)]
     refine hK (i+1) _ _ (by omega) (by simp [hT',PT.get_put]) ⟨by omega,hw2,le'.trans (le2.trans (Hle.refl _)),?_⟩
     rw [List.take_succ_eq_append_getElem hg,lettOk_snoc]
     exact ⟨hl,lettB_iff.1 hq⟩
    ·simp at hT'
     simp [hT']
     refine bad _ (fun hh=>?_) lee
     have:=lettOk_take hh.2.2 (i+1)
     rw [List.take_succ_eq_append_getElem hg,lettOk_snoc] at this
     rw [lettB_iff.2 this.2] at hq
     cases hq
  ·have:i=A.letters.length:=by omega
   subst this
   rw [List.take_length] at hl
   simp
   exact good _ ⟨hs,ht,hl⟩ (le1.trans le')
end Go.Ab.Z
namespace Go.Ab.Z
open Go Go.Ab
variable {h:AHeap} {k:Post} {fe le en mo to:AVal} {A:PAlpha} {X Y:PAuto} {R:List (List Int)} {E:List Bool}
def K9:KeyT:=⟨9,false,[.str]⟩
def K21:KeyT:=⟨21,false,[.int .i32]⟩
def eR (r:Int):AVal:=.int .i32 r
theorem kd9:Kd (List UInt8) Bool K9 .str .bool:=⟨fun _=>rfl,rfl,fun a b=>by
 show bi (eqS a b) true false=_
 rw [eqS_eq,bi_eq];by_cases h:a=b<;>simp [h]⟩
theorem kd21 (ν:Type) (ev:ν->AVal):Kd Int ν K21 eR ev:=⟨fun _=>rfl,rfl,fun a b=>by
 show bi (eqI a b) true false=_
 rw [eqI_eq,bi_eq];by_cases h:a=b<;>simp [h]⟩
theorem f69 (hA:IsAlpha h fe le A) (H:∀ h',WF h'->Hle h h'->k (.int .i64 (alphaE A)) h'):Cf 69 [.agg [fe,le]] h k:=by
 refine use_code compiled69 fun hw=>?_
 have le1:=Hle.newCells hw [fe,le]
 have hw1:=hw.newCells [fe,le]
 have v1:=Blk.new h [fe,le]
 have bad:∀ h',¬ AlphaOk A->Hle h h'->WF h'->k (.int .i64 7) h':=fun h' hb le w=>by
  have:=H h' w le;unfold alphaE at this;rwa [if_neg hb] at this
 have good:∀ h',AlphaOk A->Hle h h'->WF h'->k (.int .i64 0) h':=fun h' hb le w=>by
  have:=H h' w le;unfold alphaE at this;rwa [if_pos hb] at this
 simp [fn69,hA.flen]
 refine ap_split (fun hc=>?_) (fun hc=>?_)
 ·simp only [decide_eq_true hc]
  simp
  exact bad _ (fun h=>by have:=h.1.1;omega) le1
 simp only [decide_eq_false hc]
 simp [hA.llen]
 refine ap_split (fun hd=>?_) (fun hd=>?_)
 ·simp only [decide_eq_true hd]
  simp
  exact bad _ (fun h=>by have:=h.1.2;omega) le1
 simp only [decide_eq_false hd]
 simp [hA.llen]
 refine ap_split (fun hf=>?_) (fun hf=>?_)
 ·simp
  exact bad _ (fun h=>by have:=h.1.2;omega) le1
 have hsz:sizeOk A:=⟨by omega,by omega,by omega⟩
 simp [hA.flen]
 rw [L69_1]
 refine loop_by (σ:=Nat) (fun i h'=>i<=A.features.length/\WF h'/\Hle (h.newCells [fe,le]) h'/\featOk (A.features.take i)/\∃ m:List (List UInt8×Bool),MapOf K9 .str .bool h' (h.next+1) m/\∀ g,aget m g=if g∈A.features.take i then some true else none)
  (fun i=>[(1,.ptr h.next 0),(3,.map (h.next+1)),(27,fe),(28,.int .i64 A.features.length),(29,.int .i64 i)]) (fun i=>A.features.length - i) 0 (by simp) ?_ ?_
 ·exact ⟨by omega,hw1.new _,Hle.new hw1 _,by simp [featOk],[],MapOf.new _,fun g=>by simp [aget]⟩
 rintro i h' K ⟨hi,hw',le',ht,m,hm,hg⟩ hK
 simp
 refine ap_split (fun hc=>?_) (fun hc=>?_)
 ·have hc:i < A.features.length:=by omega
  have a1:=hA.fe.idx (i:=i) (by simpa using hc) .i64
  have a2:=(hA.fe.mono (le1.trans le')).rd (i:=i) (c:=.str A.features[i]) (by simp [hc])
  simp [a1,a2]
  refine f124 (hA.fl _ (List.getElem_mem hc)) fun h2 w2 le2=>?_
  simp
  have tk:A.features.take (i+1)=A.features.take i++[A.features[i]]:=List.take_succ_eq_append_getElem hc
  have no:¬ (named A.features[i]=true/\A.features[i]∉A.features.take i)->¬ AlphaOk A:=fun hn hh=>by
   have:=featOk_take hh.2.1 (i+1)
   rw [tk,featOk_snoc] at this
   exact hn this.2
  have lk:=(hm.mono le2).lookup kd9 A.features[i] (.bool false) false
  rw [hg] at lk
  have lk:lookupA ⟨9,false,[.str]⟩ (.bool false) false (.map (h.next+1)) (.str A.features[i]) h2=found (.bool false) false (Option.map .bool (if A.features[i]∈A.features.take i then some true else none)):=lk
  refine ap_cases (fun hq=>?_) (fun hq=>?_)
  ·simp only [hq]
   simp
   by_cases hin:A.features[i]∈A.features.take i
   ·simp [lk,hin]
    exact bad _ (no fun h=>h.2 hin) (le1.trans (le'.trans le2))
   ·obtain ⟨h3,u1,u2,u3⟩:=(hm.mono le2).update kd9 A.features[i] true
    have u1:updateA ⟨9,false,[.str]⟩ (.map (h.next+1)) (.str A.features[i]) (.bool true) h2=some (none,h3):=u1
    simp [lk,hin,u1]
    rw [wrap64 (by omega) (by omega)]
    refine hK (i+1) _ _ (by omega) (by simp) ⟨by omega,u3.wf w2 (by have:=le'.next;have:=le2.next;have:=hm.lt hw';omega),u3.hle (le'.trans le2) hw1 (by simp),?_,_,u2,fun g=>?_⟩
    ·rw [tk,featOk_snoc];exact ⟨ht,hq,hin⟩
    ·rw [aget_aput,hg,tk]
     simp only [List.mem_append,List.mem_singleton]
     by_cases hgi:g=A.features[i]
     ·simp [hgi]
     ·simp [hgi]
  ·simp only [hq]
   simp
   exact bad _ (no fun h=>by rw [h.1] at hq;cases hq) (le1.trans (le'.trans le2))
 ·have:i=A.features.length:=by omega
  subst this
  rw [List.take_length] at ht
  have r1:=(v1.mono le').rd1 (i:=1) (c:=le) rfl
  have hne:h.next≠h'.next:=by have:=le'.next;simp at this;omega
  simp [hne,r1,hA.llen]
  clear hK hm hg m K
  have hwn:=hw'.new (.map 21 [] 0)
  have lea:=le1.trans le'
  rw [L69_2]
  refine loop_by (σ:=Nat) (fun i h2=>i<=A.letters.length/\WF h2/\Hle h' h2/\lettOk A.features.length (A.letters.take i)/\∃ m:List (Int×Bool),MapOf K21 eR .bool h2 h'.next m/\∀ g,aget m g=if g∈(A.letters.take i).map PLetter.rune then some true else none)
   (fun i=>[(1,.ptr h.next 0),(6,.map h'.next),(46,le),(47,.int .i64 A.letters.length),(48,.int .i64 i)]) (fun i=>A.letters.length - i) 0 (by simp) ?_ ?_
  ·exact ⟨by omega,hwn,Hle.new hw' _,by simp [lettOk],[],MapOf.new _,fun g=>by simp [aget]⟩
  rintro i h2 K ⟨hi,hw2,le2,hl,m,hm,hg⟩ hK
  simp
  refine ap_split (fun hc=>?_) (fun hc=>?_)
  ·have hc:i < A.letters.length:=by omega
   have hlo:=hA.ok A.letters[i] (List.getElem_mem hc)
   have a1:=hA.le.idx (i:=i) (by simpa using hc) .i64
   have a2:=(hA.le.mono (lea.trans le2)).rd (i:=i) (l:=A.letters[i].cells) (by simp [hc])
   obtain ⟨h3,w1,w2,w3⟩:=(Blk.new h2 [.int .i32 0,.int .u32 0,.int .u32 0]).write (off:=0) (vs:=A.letters[i].cells) (by simp) rfl
   simp at w2
   have le3:Hle h2 h3:=w3.hle (Hle.newCells hw2 _) hw2 (Nat.le_refl _)
   have hw3:WF h3:=w3.wf (hw2.newCells _) (by simp)
   have c0:=w2.rd1 (i:=0) (c:=.int .i32 A.letters[i].rune) rfl
   have w1':(h2.newCells [.int .i32 0,.int .u32 0,.int .u32 0]).write h2.next 0 [.int .i32 A.letters[i].rune,.int .u32 A.letters[i].plus,.int .u32 A.letters[i].minus]=some h3:=w1
   simp [a1,a2,w1',c0]
   refine f125 hlo.1 fun _=>?_
   have c1:=w2.rd1 (i:=1) (c:=.int .u32 A.letters[i].plus) rfl
   have c2:=w2.rd1 (i:=2) (c:=.int .u32 A.letters[i].minus) rfl
   have rr:=(v1.mono (le'.trans (le2.trans le3))).rd (off:=0) (n:=2) (l:=[fe,le]) (by simp) rfl
   have tk:A.letters.take (i+1)=A.letters.take i++[A.letters[i]]:=List.take_succ_eq_append_getElem hc
   have no:¬ ((mayRune A.letters[i].rune=true/\mayClass A.features.length A.letters[i].plus A.letters[i].minus=true)/\A.letters[i].rune∉(A.letters.take i).map PLetter.rune)->¬ AlphaOk A:=fun hn hh=>by
    have:=lettOk_take hh.2.2 (i+1)
    rw [tk,lettOk_snoc] at this
    exact hn this.2
   have lk:=(hm.mono le3).lookup (kd21 Bool .bool) A.letters[i].rune (.bool false) false
   rw [hg] at lk
   have lk:lookupA ⟨21,false,[.int .i32]⟩ (.bool false) false (.map h'.next) (.int .i32 A.letters[i].rune) h3=found (.bool false) false (Option.map .bool (if A.letters[i].rune∈(A.letters.take i).map PLetter.rune then some true else none)):=lk
   simp
   refine ap_cases (fun hq=>?_) (fun hq=>?_)
   ·simp only [hq]
    by_cases hin:A.letters[i].rune∈(A.letters.take i).map PLetter.rune
    ·rw [if_pos hin] at lk
     simp [lk,c0]
     exact bad _ (no fun h=>h.2 hin) (lea.trans (le2.trans le3))
    ·rw [if_neg hin] at lk
     simp [lk,c0,rr,c1,c2]
     refine f126 (hA.mono (lea.trans (le2.trans le3))) (by omega) hlo.2.1 hlo.2.2 fun h4 w4 le4=>?_
     simp
     refine ap_cases (fun hr=>?_) (fun hr=>?_)
     ·obtain ⟨h5,u1,u2,u3⟩:=(hm.mono (le3.trans le4)).update (kd21 Bool .bool) A.letters[i].rune true
      have u1:updateA ⟨21,false,[.int .i32]⟩ (.map h'.next) (.int .i32 A.letters[i].rune) (.bool true) h4=some (none,h5):=u1
      have c0':=(w2.mono le4).rd1 (i:=0) (c:=.int .i32 A.letters[i].rune) rfl
      simp [hr,c0',u1]
      have hnx:=le2.next
      have hnx3:=le3.next
      have hnx4:=le4.next
      have hlt:=hm.lt hw2
      rw [wrap64 (by omega) (by have:=hA.nl;omega)]
      refine hK (i+1) _ _ (by omega) (by simp) ⟨by omega,u3.wf w4 (by omega),u3.hle (le2.trans (le3.trans le4)) hw' (Nat.le_refl _),?_,_,u2,fun g=>?_⟩
      ·rw [tk,lettOk_snoc];exact ⟨hl,⟨hq,hr⟩,hin⟩
      ·rw [aget_aput,hg,tk]
       simp only [List.map_append,List.map_cons,List.map_nil,List.mem_append,List.mem_singleton]
       by_cases hgi:g=A.letters[i].rune
       ·simp [hgi]
       ·simp [hgi]
     ·simp [hr]
      exact bad _ (no fun h=>by rw [h.1.2] at hr;cases hr) (lea.trans (le2.trans (le3.trans le4)))
   ·simp only [hq]
    simp
    exact bad _ (no fun h=>by rw [h.1.1] at hq;cases hq) (lea.trans (le2.trans le3))
  ·have:i=A.letters.length:=by omega
   subst this
   rw [List.take_length] at hl
   simp
   exact good _ ⟨hsz,ht,hl⟩ (lea.trans le2)
def rankOf (ls:List PLetter) (r:Int):Option Int:=if number ls r 0 < 0 then none else some (number ls r 0)
theorem number_ge (ls:List PLetter) (r:Int):∀ i:Nat,number ls r i=-1\/((i:Int)<=number ls r i/\number ls r i < i+ls.length):=by
 induction ls with
 | nil=>intro i;exact .inl rfl
 | cons l ls ih =>
  intro i
  unfold number
  split
  ·right;simp;omega
  ·rcases ih (i+1) with h | h
   ·exact .inl h
   ·right;simp only [List.length_cons];omega
theorem number_neg (ls:List PLetter) (r:Int):∀ i:Nat,number ls r i=-1↔r∉ls.map PLetter.rune:=by
 induction ls with
 | nil=>intro i;simp [number]
 | cons l ls ih =>
  intro i
  unfold number
  split
  ·rename_i h;simp [h]
  ·rename_i h;rw [ih];simp [Ne.symm h]
theorem number_snoc (ls:List PLetter) (l:PLetter) (r:Int):∀ i:Nat,number (ls++[l]) r i=if number ls r i=-1 then (if l.rune=r then (i:Int)+ls.length else -1) else number ls r i:=by
 induction ls with
 | nil=>intro i;simp [number]
 | cons x ls ih =>
  intro i
  simp only [List.cons_append,number]
  split
  ·rename_i h;rw [if_neg];omega
  ·rw [ih (i+1)]
   simp only [List.length_cons]
   split
   ·split
    ·omega
    ·rfl
   ·rfl
theorem f70 (hA:IsAlpha h fe le A) (hd:(A.letters.map PLetter.rune).Nodup) (H:∀ h' b (m:List (Int×Int)),WF h'->Hle h h'->h.next<=b->MapOf K21 eR vI h' b m->(∀ r,aget m r=rankOf A.letters r)->k (.map b) h'):Cf 70 [.agg [fe,le]] h k:=by
 refine use_code compiled70 fun hw=>?_
 have le1:=Hle.newCells hw [fe,le]
 have hw1:=hw.newCells [fe,le]
 simp [fn70,hA.llen]
 rw [L70_1]
 refine loop_by (σ:=Nat) (fun i h2=>i<=A.letters.length/\WF h2/\Hle (h.newCells [fe,le]) h2/\∃ m:List (Int×Int),MapOf K21 eR vI h2 (h.next+1) m/\∀ g,aget m g=rankOf (A.letters.take i) g)
  (fun i=>[(3,.map (h.next+1)),(11,le),(12,.int .i64 A.letters.length),(13,.int .i64 i)]) (fun i=>A.letters.length - i) 0 (by simp) ?_ ?_
 ·exact ⟨by omega,hw1.new _,Hle.new hw1 _,[],MapOf.new _,fun g=>by simp [aget,rankOf,number]⟩
 rintro i h2 K ⟨hi,hw2,le2,m,hm,hg⟩ hK
 simp
 refine ap_split (fun hc=>?_) (fun hc=>?_)
 ·have hc:i < A.letters.length:=by omega
  have a1:=hA.le.idx (i:=i) (by simpa using hc) .i64
  have a2:=(hA.le.mono (le1.trans le2)).rd (i:=i) (l:=A.letters[i].cells) (by simp [hc])
  obtain ⟨h3,w1,w2,w3⟩:=(Blk.new h2 [.int .i32 0,.int .u32 0,.int .u32 0]).write (off:=0) (vs:=A.letters[i].cells) (by simp) rfl
  simp at w2
  have le3:Hle h2 h3:=w3.hle (Hle.newCells hw2 _) hw2 (Nat.le_refl _)
  have hw3:WF h3:=w3.wf (hw2.newCells _) (by simp)
  have c0:=w2.rd1 (i:=0) (c:=.int .i32 A.letters[i].rune) rfl
  have w1':(h2.newCells [.int .i32 0,.int .u32 0,.int .u32 0]).write h2.next 0 [.int .i32 A.letters[i].rune,.int .u32 A.letters[i].plus,.int .u32 A.letters[i].minus]=some h3:=w1
  obtain ⟨h5,u1,u2,u3⟩:=(hm.mono le3).update (kd21 Int vI) A.letters[i].rune (i:Int)
  have u1:updateA ⟨21,false,[.int .i32]⟩ (.map (h.next+1)) (.int .i32 A.letters[i].rune) (.int .i64 i) h3=some (none,h5):=u1
  simp [a1,a2,w1',c0,u1]
  have hnx:=le2.next
  have hnx3:=le3.next
  have hlt:=hm.lt hw2
  rw [wrap64 (by omega) (by have:=hA.nl;omega)]
  refine hK (i+1) _ _ (by omega) (by simp) ⟨by omega,u3.wf hw3 (by omega),u3.hle (le2.trans le3) hw1 (by simp),_,u2,fun g=>?_⟩
  rw [aget_aput,hg,List.take_succ_eq_append_getElem hc]
  have hni:A.letters[i].rune∉(A.letters.take i).map PLetter.rune:=by
   have h1:(A.letters.take (i+1)).map PLetter.rune=(A.letters.take i).map PLetter.rune++[A.letters[i].rune]:=by rw [List.take_succ_eq_append_getElem hc];simp only [List.map_append,List.map_cons,List.map_nil]
   have h2:((A.letters.take (i+1)).map PLetter.rune).Nodup:=hd.sublist ((List.take_sublist _ _).map _)
   rw [h1,List.nodup_append] at h2
   intro hin
   exact h2.2.2 _ hin _ (by simp) rfl
  unfold rankOf
  rw [number_snoc]
  by_cases hgi:g=A.letters[i].rune
  ·rw [if_pos hgi,hgi,(number_neg _ _ 0).2 hni]
   simp
   omega
  ·rw [if_neg hgi,if_neg (Ne.symm hgi)]
   by_cases h1:number (A.letters.take i) g 0=-1
   ·simp [h1]
   ·simp [h1]
 ·have:i=A.letters.length:=by omega
  subst this
  rw [List.take_length] at hg
  simp
  intro w
  exact H _ _ m w (le1.trans le2) (by omega) hm hg
end Go.Ab.Z
namespace Go.Ab.Z
open Go Go.Ab
variable {h:AHeap} {k:Post} {fe le en mo to:AVal} {A:PAlpha} {X Y:PAuto} {R:List (List Int)} {E:List Bool}
@[simp] theorem callV_func (cf:CallF) (f:FuncId) (first caps as_:List AVal) (h:AHeap) (k:Ko):callV cf (.func f first caps) as_ h k=cf f (first++as_++caps) h (retK k):=(rfl)
def inS (st n:Int):Bool:=decide (0<=n/\n < st)
theorem f91 {b:Nat} {st:Int} (v:Blk h b [.int .i64 st,en,mo]) (n:Int) (H:WF h->k (.bool (inS st n)) h):Cf 91 [.int .i64 n,.ptr b 0] h k:=by
 refine use_code compiled91 fun hw=>?_
 have r:=v.rd1 (i:=0) (c:=.int .i64 st) rfl
 simp [fn91]
 refine ap_split (fun hc=>?_) (fun hc=>?_)
 ·simp only [decide_eq_true hc]
  simp
  intro w;exact kcast (H w) (by unfold inS;congr 1;rw [Bool.eq_iff_iff];simp;omega)
 ·simp only [decide_eq_false hc]
  simp [r]
  intro w;exact kcast (H w) (by unfold inS;congr 1;rw [Bool.eq_iff_iff];simp;omega)
def endOk (st:Int) (es:List Int) (i:Nat):Prop:=∀ (hi:i < es.length),inS st es[i]=true/\∀ j (hj:j < es.length),i=j+1->es[j] < es[i]
def moveOk (A:PAlpha) (st:Int) (m:PMove):Prop:=inS st m.src=true/\inS st m.dst=true/\number A.letters m.rune 0≠-1
def movesOk (A:PAlpha) (st:Int) (ms:List PMove):Prop:=(∀ m∈ms,moveOk A st m)/\ms.Nodup
def AutoOk (A:PAlpha) (X:PAuto):Prop:=(1<=X.states/\X.states<=4096/\X.moves.length<=16384)/\(∀ i,endOk X.states X.ends i)/\movesOk A X.states X.moves
open Classical in
noncomputable def autoE (A:PAlpha) (X:PAuto):Int:=if AlphaOk A then (if AutoOk A X then 0 else 60) else 7
theorem movesOk_snoc (A:PAlpha) (st:Int) (ms:List PMove) (m:PMove):movesOk A st (ms++[m])↔movesOk A st ms/\moveOk A st m/\m∉ms:=by
 unfold movesOk
 rw [List.nodup_append]
 simp only [List.mem_append,List.mem_singleton,List.nodup_cons,List.not_mem_nil,not_false_eq_true,List.nodup_nil,and_true,true_and]
 constructor
 ·rintro ⟨h1,h2,h3⟩;exact ⟨⟨fun g hg=>h1 g (.inl hg),h2⟩,h1 m (.inr rfl),fun hf=>h3 m hf m rfl rfl⟩
 ·rintro ⟨⟨h1,h2⟩,h3,h4⟩
  exact ⟨fun g hg=>hg.elim (h1 g) fun e=>e ▸ h3,h2,fun a ha b hb e=>h4 (by rw [<-hb,<-e];exact ha)⟩
theorem movesOk_take {st:Int} {ms:List PMove} (h:movesOk A st ms) (i:Nat):movesOk A st (ms.take i):=⟨fun f hf=>h.1 f (List.mem_of_mem_take hf),h.2.sublist (List.take_sublist _ _)⟩
def K62:KeyT:=⟨62,true,[.int .i64,.int .i64,.int .i32]⟩
def eM (m:PMove):AVal:=.agg m.cells
theorem move_keys (m n:PMove):keyEqs m.cells n.cells=decide (m=n):=by
 show bi (eqI m.src n.src) (bi (eqI m.dst n.dst) (bi (eqI m.rune n.rune) true false) false) false=_
 rw [Bool.eq_iff_iff]
 simp only [eqI_eq,bi_eq]
 cases m;cases n
 simp
theorem kd62 (ν:Type) (ev:ν->AVal):Kd PMove ν K62 eM ev:=⟨fun _=>rfl,rfl,fun a b=>move_keys a b⟩
theorem new0 (w:WF h):∃ h',(h.newCells []).write h.next 0 []=some h'/\WF h'/\Hle h h':=by
 obtain ⟨h',e1,_,e3⟩:=(Blk.new h []).write (off:=0) (vs:=[]) (by simp) rfl
 exact ⟨h',e1,e3.wf (w.newCells _) (by simp),e3.hle (Hle.newCells w _) w (Nat.le_refl _)⟩
theorem newM (w:WF h) (m:PMove):∃ h',(h.newCells [.int .i64 0,.int .i64 0,.int .i32 0]).write h.next 0 [.int .i64 m.src,.int .i64 m.dst,.int .i32 m.rune]=some h'/\Blk h' h.next m.cells/\WF h'/\Hle h h':=by
 obtain ⟨h',e1,e2,e3⟩:=(Blk.new h [.int .i64 0,.int .i64 0,.int .i32 0]).write (off:=0) (vs:=m.cells) (by simp) rfl
 exact ⟨h',e1,by simpa using e2,e3.wf (w.newCells _) (by simp),e3.hle (Hle.newCells w _) w (Nat.le_refl _)⟩
theorem f35 (hA:IsAlpha h fe le A) (hX:IsAuto h en mo X) (H:∀ h',WF h'->Hle h h'->k (.int .i64 (autoE A X)) h'):Cf 35 [.agg [fe,le],aV X.states en mo] h k:=by
 refine use_code compiled35 fun hw=>?_
 have hw1:=hw.newCells [fe,le]
 have le1:=Hle.newCells hw [fe,le]
 have hw2:=hw1.newCells [.int .i64 X.states,en,mo]
 have le2:=le1.trans (Hle.newCells hw1 [.int .i64 X.states,en,mo])
 have v2:=(Blk.new h [fe,le]).mono (Hle.newCells hw1 [.int .i64 X.states,en,mo])
 have v3:=Blk.new (h.newCells [fe,le]) [.int .i64 X.states,en,mo]
 have bad7:∀ h',¬ AlphaOk A->Hle h h'->WF h'->k (.int .i64 7) h':=fun h' hb le w=>by
  have:=H h' w le;unfold autoE at this;rwa [if_neg hb] at this
 have bad:∀ h',AlphaOk A->¬ AutoOk A X->Hle h h'->WF h'->k (.int .i64 60) h':=fun h' ha hb le w=>by
  have:=H h' w le;unfold autoE at this;rwa [if_pos ha,if_neg hb] at this
 have good:∀ h',AlphaOk A->AutoOk A X->Hle h h'->WF h'->k (.int .i64 0) h':=fun h' ha hb le w=>by
  have:=H h' w le;unfold autoE at this;rwa [if_pos ha,if_pos hb] at this
 simp at v3
 simp [fn35,aV]
 generalize (h.newCells [fe,le]).newCells [.int .i64 X.states,en,mo]=g2 at *
 refine f69 (hA.mono le2) fun h3 w3 le3=>?_
 have lea:=le2.trans le3
 simp
 by_cases hok:AlphaOk A
 ·simp only [alphaE,if_pos hok]
  simp
  have q0:=(v3.mono le3).rd1 (i:=0) (c:=.int .i64 X.states) rfl
  have q1:=(v3.mono le3).rd1 (i:=1) (c:=en) rfl
  have q2:=(v3.mono le3).rd1 (i:=2) (c:=mo) rfl
  simp [q0]
  refine ap_split (fun hc=>?_) (fun hc=>?_)
  ·simp only [decide_eq_true hc]
   simp
   exact bad _ hok (fun h=>by have:=h.1.1;omega) lea
  simp only [decide_eq_false hc]
  simp [q0]
  refine ap_split (fun hd=>?_) (fun hd=>?_)
  ·simp only [decide_eq_true hd]
   simp
   exact bad _ hok (fun h=>by have:=h.1.2.1;omega) lea
  simp only [decide_eq_false hd]
  simp [q2,hX.mlen]
  refine ap_split (fun hf=>?_) (fun hf=>?_)
  ·simp
   exact bad _ hok (fun h=>by have:=h.1.2.2;omega) lea
  have hsz:1<=X.states/\X.states<=4096/\X.moves.length<=16384:=⟨by omega,by omega,by omega⟩
  simp [q1,hX.elen]
  rw [L35_1]
  refine loop_by (σ:=Nat) (fun i h'=>i<=X.ends.length/\h'=h3/\∀ j,j < i->endOk X.states X.ends j)
   (fun i=>[(2,.ptr h.next 0),(3,.ptr (h.next+1) 0),(6,.func 91 [] [.ptr (h.next+1) 0]),(38,en),(39,.int .i64 X.ends.length),(40,.int .i64 i)]) (fun i=>X.ends.length - i) 0 (by simp) ?_ ?_
  ·exact ⟨by omega,rfl,fun j hj=>by omega⟩
  rintro i h' K ⟨hi,rfl,ht⟩ hK
  simp
  refine ap_split (fun hc=>?_) (fun hc=>?_)
  ·have hc:i < X.ends.length:=by omega
   have a1:=hX.en.idx (i:=i) (by simpa using hc) .i64
   have a2:=(hX.en.mono lea).rd (i:=i) (c:=vI X.ends[i]) (by simp [hc])
   simp [a1,a2,vI]
   refine f91 (v3.mono le3) X.ends[i] fun w=>?_
   simp
   have hne:=hX.ne
   refine ap_cases (fun hq=>?_) (fun hq=>?_)
   ·simp only [hq]
    simp
    refine ap_split (fun hj=>?_) (fun hj=>?_)
    ·have hj:0 < i:=by omega
     have b1:=hX.en.idx (i:=i - 1) (by simp only [List.length_map];omega) .i64
     have b2:=(hX.en.mono lea).rd (i:=i - 1) (c:=vI X.ends[i-1]) (map_getElem? (by omega))
     have b0:wrapF .i64 ((i:Int) - 1)=((i - 1:Nat):Int):=by rw [wrap64 (by omega) (by omega)];omega
     simp [hj,q1,b0,b1,b2,vI]
     refine ap_split (fun hz=>?_) (fun hz=>?_)
     ·try simp
      rw [wrap64 (by omega) (by omega)]
      refine hK (i+1) _ _ (by omega) (by simp) ⟨by omega,rfl,fun j hj'=>?_⟩
      by_cases hji:j=i
      ·subst hji
       intro hi'
       refine ⟨hq,fun j' hj'' e=>?_⟩
       have:j'=j - 1:=by omega
       subst this;exact hz
      ·exact ht j (by omega)
     ·simp
      refine bad _ hok (fun hh=>?_) lea
      have:=((hh.2.1 i) hc).2 (i - 1) (by omega) (by omega)
      exact hz this
    ·have hj:i=0:=by omega
     subst hj
     simp
     refine hK 1 _ _ (by omega) (by simp [wrap64]) ⟨by omega,rfl,fun j hj'=>?_⟩
     have:j=0:=by omega
     subst this
     exact fun hi'=>⟨hq,fun j' hj'' e=>by omega⟩
   ·simp [hq]
    refine bad _ hok (fun hh=>?_) lea
    have:=((hh.2.1 i) hc).1
    rw [this] at hq;cases hq
  ·have:i=X.ends.length:=by omega
   subst this
   have hends:∀ j,endOk X.states X.ends j:=fun j hi'=>ht j hi' hi'
   have rr:=(v2.mono le3).rd (off:=0) (n:=2) (l:=[fe,le]) (by simp) rfl
   simp [rr]
   clear hK K ht
   refine f70 (hA.mono lea) hok.2.2.2 fun h4 b4 m4 w4 le4 hb4 hm4 hg4=>?_
   have r2:=(v3.mono (le3.trans le4)).rd1 (i:=2) (c:=mo) rfl
   have hlt:h.next+1≠h4.next:=by have:=v3.lt hw2;have:=le3.next;have:=le4.next;omega
   simp [r2,hX.mlen,hlt]
   have leb:=lea.trans le4
   have hwn:=w4.new (.map 62 [] 0)
   rw [L35_2]
   refine loop_by (σ:=Nat) (fun i h'=>i<=X.moves.length/\WF h'/\Hle h4 h'/\movesOk A X.states (X.moves.take i)/\∃ m:List (PMove×Unit),MapOf K62 eM (fun _=>.agg []) h' h4.next m/\∀ g,aget m g=if g∈X.moves.take i then some () else none)
    (fun i=>[(3,.ptr (h.next+1) 0),(6,.func 91 [] [.ptr (h.next+1) 0]),(9,.map b4),(10,.map h4.next),(71,mo),(72,.int .i64 X.moves.length),(73,.int .i64 i)]) (fun i=>X.moves.length - i) 0 (by simp) ?_ ?_
   ·exact ⟨by omega,hwn,Hle.new w4 _,by simp [movesOk],[],MapOf.new _,fun g=>by simp [aget]⟩
   rintro i h5 K ⟨hi,hw5,le5,hm,m,hmm,hg⟩ hK
   simp
   refine ap_split (fun hc=>?_) (fun hc=>?_)
   ·have hc:i < X.moves.length:=by omega
    have a1:=hX.mo.idx (i:=i) (by simpa using hc) .i64
    have a2:=(hX.mo.mono (leb.trans le5)).rd (i:=i) (l:=X.moves[i].cells) (by simp [hc])
    obtain ⟨h6,u1,u2,hw6,le6⟩:=newM hw5 X.moves[i]
    obtain ⟨h7,n1,hw7,le7⟩:=new0 hw6
    have c0:=u2.rd1 (i:=0) (c:=.int .i64 X.moves[i].src) rfl
    have c1:=u2.rd1 (i:=1) (c:=.int .i64 X.moves[i].dst) rfl
    have c2:=u2.rd1 (i:=2) (c:=.int .i32 X.moves[i].rune) rfl
    have cc:=u2.rd (off:=0) (n:=3) (l:=X.moves[i].cells) (by simp) rfl
    have d0:=(u2.mono le7).rd1 (i:=0) (c:=.int .i64 X.moves[i].src) rfl
    have d1:=(u2.mono le7).rd1 (i:=1) (c:=.int .i64 X.moves[i].dst) rfl
    have dd:=(u2.mono le7).rd (off:=0) (n:=3) (l:=X.moves[i].cells) (by simp) rfl
    have l1:lookupA ⟨21,false,[.int .i32]⟩ (.int .i64 0) true (.map b4) (.int .i32 X.moves[i].rune) h6=found (.int .i64 0) true (Option.map vI (rankOf A.letters X.moves[i].rune)):=by
     have:=(hm4.mono (le5.trans le6)).lookup (kd21 Int vI) X.moves[i].rune (.int .i64 0) true
     rw [hg4] at this;exact this
    have l2:lookupA ⟨62,true,[.int .i64,.int .i64,.int .i32]⟩ (.agg []) true (.map h4.next) (.agg X.moves[i].cells) h6=found (.agg []) true (Option.map (fun _=>.agg []) (if X.moves[i]∈X.moves.take i then some () else none)):=by
     have:=(hmm.mono le6).lookup (kd62 Unit (fun _=>.agg [])) X.moves[i] (.agg []) true
     rw [hg] at this;exact this
    have tk:X.moves.take (i+1)=X.moves.take i++[X.moves[i]]:=List.take_succ_eq_append_getElem hc
    have no:¬ (moveOk A X.states X.moves[i]/\X.moves[i]∉X.moves.take i)->¬ AutoOk A X:=fun hn hh=>by
     have:=movesOk_take hh.2.2 (i+1)
     rw [tk,movesOk_snoc] at this
     exact hn this.2
    have lec:=leb.trans (le5.trans (le6.trans le7))
    have v37:=v3.mono (le3.trans (le4.trans (le5.trans (le6.trans le7))))
    obtain ⟨x1,e1⟩:∃ x1,found (.int .i64 0) true (Option.map vI (rankOf A.letters X.moves[i].rune))=some (.tup [x1,.bool (decide (number A.letters X.moves[i].rune 0≠-1))]):=by
     unfold rankOf
     rcases number_ge A.letters X.moves[i].rune 0 with e | e
     ·exact ⟨.int .i64 0,by simp [e]⟩
     ·exact ⟨vI (number A.letters X.moves[i].rune 0),by rw [if_neg (by omega),decide_eq_true (by omega)];rfl⟩
    have e2:found (.agg []) true (Option.map (fun _=>.agg []) (if X.moves[i]∈X.moves.take i then some () else none))=some (.tup [.agg [],.bool (decide (X.moves[i]∈X.moves.take i))]):=by
     by_cases hin:X.moves[i]∈X.moves.take i
     ·rw [if_pos hin,decide_eq_true hin];rfl
     ·rw [if_neg hin,decide_eq_false hin];rfl
    rw [e1] at l1
    rw [e2] at l2
    simp only [PMove.cells] at l2 cc dd
    simp [a1,a2,u1,c2,l1,cc,l2,n1,d0]
    refine f91 v37 X.moves[i].src fun w=>?_
    simp
    refine ap_cases (fun hq=>?_) (fun hq=>?_)
    ·simp [hq,d1]
     refine f91 v37 X.moves[i].dst fun w=>?_
     simp
     refine ap_cases (fun hr=>?_) (fun hr=>?_)
     ·simp [hr]
      refine ap_split (fun hs=>?_) (fun hs=>?_)
      ·simp [hs]
       refine bad _ hok (no fun hh=>hh.1.2.2 hs) lec
      ·simp [hs]
       refine ap_split (fun hin=>?_) (fun hin=>?_)
       ·simp
        refine bad _ hok (no fun hh=>hh.2 hin) lec
       ·have le75:=le6.trans le7
        obtain ⟨h8,s1,s2,s3⟩:=(hmm.mono le75).update (kd62 Unit (fun _=>.agg [])) X.moves[i] ()
        have s1:updateA ⟨62,true,[.int .i64,.int .i64,.int .i32]⟩ (.map h4.next) (.agg [.int .i64 X.moves[i].src,.int .i64 X.moves[i].dst,.int .i32 X.moves[i].rune]) (.agg []) h7=some (none,h8):=s1
        have hx5:=hmm.lt hw5
        have hx:=le75.next
        simp [dd,s1]
        rw [wrap64 (by omega) (by omega)]
        refine hK (i+1) _ _ (by omega) (by simp) ⟨by omega,s3.wf hw7 (by omega),s3.hle (le5.trans le75) w4 (Nat.le_refl _),?_,_,s2,fun g=>?_⟩
        ·rw [tk,movesOk_snoc];exact ⟨hm,⟨hq,hr,hs⟩,hin⟩
        ·rw [aget_aput,hg,tk]
         simp only [List.mem_append,List.mem_singleton]
         by_cases hgi:g=X.moves[i]
         ·simp [hgi]
         ·simp [hgi]
     ·simp [hr]
      refine bad _ hok (no fun hh=>by rw [hh.1.2.1] at hr;cases hr) lec
    ·simp [hq]
     refine bad _ hok (no fun hh=>by rw [hh.1.1] at hq;cases hq) lec
   ·have:i=X.moves.length:=by omega
    subst this
    rw [List.take_length] at hm
    simp
    exact good _ hok ⟨hsz,hends,hm⟩ (leb.trans le5)
 ·simp only [alphaE,if_neg hok]
  simp
  exact bad7 _ hok lea
end Go.Ab.Z
namespace Go.Ab.Z
open Go Go.Ab
variable {h:AHeap} {k:Post} {fe le en mo to:AVal} {A:PAlpha} {X Y:PAuto} {R:List (List Int)} {E:List Bool}
theorem f36 (hA:IsAlpha h fe le A) (hX:IsAuto h en mo X) (H:∀ h',WF h'->Hle h h'->k (.int .i64 (autoE A X)) h'):Cf 36 [.agg [fe,le],aV X.states en mo] h k:=by
 refine use_code compiled36 fun hw=>?_
 have hw1:=hw.newCells [fe,le]
 have le1:=Hle.newCells hw [fe,le]
 have hw2:=hw1.newCells [.int .i64 X.states,en,mo]
 have le2:=le1.trans (Hle.newCells hw1 [.int .i64 X.states,en,mo])
 have v2:=(Blk.new h [fe,le]).mono (Hle.newCells hw1 [.int .i64 X.states,en,mo])
 have v3:=Blk.new (h.newCells [fe,le]) [.int .i64 X.states,en,mo]
 have bad7:∀ h',¬ AlphaOk A->Hle h h'->WF h'->k (.int .i64 7) h':=fun h' hb le w=>by
  have:=H h' w le;unfold autoE at this;rwa [if_neg hb] at this
 have bad:∀ h',AlphaOk A->¬ AutoOk A X->Hle h h'->WF h'->k (.int .i64 60) h':=fun h' ha hb le w=>by
  have:=H h' w le;unfold autoE at this;rwa [if_pos ha,if_neg hb] at this
 have good:∀ h',AlphaOk A->AutoOk A X->Hle h h'->WF h'->k (.int .i64 0) h':=fun h' ha hb le w=>by
  have:=H h' w le;unfold autoE at this;rwa [if_pos ha,if_pos hb] at this
 simp at v3
 simp [fn36,aV]
 generalize (h.newCells [fe,le]).newCells [.int .i64 X.states,en,mo]=g2 at *
 refine f73 (hA.mono le2) fun h3 w3 le3=>?_
 have lea:=le2.trans le3
 simp
 by_cases hok:AlphaOk A
 ·simp only [alphaE,if_pos hok]
  simp
  have q0:=(v3.mono le3).rd1 (i:=0) (c:=.int .i64 X.states) rfl
  have q1:=(v3.mono le3).rd1 (i:=1) (c:=en) rfl
  have q2:=(v3.mono le3).rd1 (i:=2) (c:=mo) rfl
  simp [q0]
  refine ap_split (fun hc=>?_) (fun hc=>?_)
  ·simp only [decide_eq_true hc]
   simp
   exact bad _ hok (fun h=>by have:=h.1.1;omega) lea
  simp only [decide_eq_false hc]
  simp [q0]
  refine ap_split (fun hd=>?_) (fun hd=>?_)
  ·simp only [decide_eq_true hd]
   simp
   exact bad _ hok (fun h=>by have:=h.1.2.1;omega) lea
  simp only [decide_eq_false hd]
  simp [q2,hX.mlen]
  refine ap_split (fun hf=>?_) (fun hf=>?_)
  ·simp
   exact bad _ hok (fun h=>by have:=h.1.2.2;omega) lea
  have hsz:1<=X.states/\X.states<=4096/\X.moves.length<=16384:=⟨by omega,by omega,by omega⟩
  simp [q1,hX.elen]
  rw [L36_1]
  refine loop_by (σ:=Nat) (fun i h'=>i<=X.ends.length/\h'=h3/\∀ j,j < i->endOk X.states X.ends j)
   (fun i=>[(2,.ptr h.next 0),(3,.ptr (h.next+1) 0),(6,.int .i64 i)]) (fun i=>X.ends.length - i) 0 (by simp) ?_ ?_
  ·exact ⟨by omega,rfl,fun j hj=>by omega⟩
  rintro i h' K ⟨hi,he,ht⟩ hK
  rw [he]
  clear he
  simp [q1,hX.elen]
  refine ap_split (fun hc=>?_) (fun hc=>?_)
  ·have hc:i < X.ends.length:=by omega
   have a1:=hX.en.idx (i:=i) (by simpa using hc) .i64
   have a2:=(hX.en.mono lea).rd (i:=i) (c:=vI X.ends[i]) (by simp [hc])
   have hne:=hX.ne
   simp [q1,a1,a2,vI]
   have no:¬ inS X.states X.ends[i]=true->¬ AutoOk A X:=fun hn hh=>hn ((hh.2.1 i) hc).1
   refine ap_split (fun hq=>?_) (fun hq=>?_)
   ·simp only [decide_eq_true hq]
    simp
    refine bad _ hok (no (by simp [inS];omega)) lea
   simp only [decide_eq_false hq]
   simp [q0,q1,a1,a2,vI]
   refine ap_split (fun hr=>?_) (fun hr=>?_)
   ·simp only [decide_eq_true hr]
    simp
    by_cases hj:0 < i
    ·have b1:=hX.en.idx (i:=i - 1) (by simp only [List.length_map];omega) .i64
     have b2:=(hX.en.mono lea).rd (i:=i - 1) (c:=vI X.ends[i-1]) (map_getElem? (by omega))
     have b0:wrapF .i64 ((i:Int) - 1)=((i - 1:Nat):Int):=by rw [wrap64 (by omega) (by omega)];omega
     simp [hj,q1,a1,a2,b0,b1,b2,vI]
     refine ap_split (fun hz=>?_) (fun hz=>?_)
     ·try simp
      rw [wrap64 (by omega) (by omega)]
      refine hK (i+1) _ _ (by omega) (by simp) ⟨by omega,rfl,fun j hj'=>?_⟩
      by_cases hji:j=i
      ·subst hji
       intro hi'
       refine ⟨by simp [inS];omega,fun j' hj'' e=>?_⟩
       have:j'=j - 1:=by omega
       subst this;exact hz
      ·exact ht j (by omega)
     ·simp
      refine bad _ hok (fun hh=>?_) lea
      have:=((hh.2.1 i) hc).2 (i - 1) (by omega) (by omega)
      exact hz this
    ·have hj:i=0:=by omega
     subst hj
     simp
     refine hK 1 _ _ (by omega) (by simp [wrap64]) ⟨by omega,rfl,fun j hj'=>?_⟩
     have:j=0:=by omega
     subst this
     exact fun hi'=>⟨by simp [inS];omega,fun j' hj'' e=>by omega⟩
   ·simp only [decide_eq_false hr]
    simp
    refine bad _ hok (no (by simp [inS];omega)) lea
  ·have:i=X.ends.length:=by omega
   subst this
   have hends:∀ j,endOk X.states X.ends j:=fun j hi'=>ht j hi' hi'
   simp
   clear hK K ht
   have hlt:h.next+1 < h3.next:=by have:=v3.lt hw2;have:=le3.next;omega
   rw [L36_2]
   refine loop_by (σ:=Nat) (fun i h'=>i<=X.moves.length/\WF h'/\Hle h3 h'/\movesOk A X.states (X.moves.take i)/\∃ m:List (PMove×Int),MapOf K62 eM vI h' h3.next m/\∀ g,aget m g=if g∈X.moves.take i then some 1 else none)
    (fun i=>[(2,.ptr h.next 0),(3,.ptr (h.next+1) 0),(7,.map h3.next),(8,.int .i64 i)]) (fun i=>X.moves.length - i) 0 (by simp) ?_ ?_
   ·exact ⟨by omega,w3.new _,Hle.new w3 _,by simp [movesOk],[],MapOf.new _,fun g=>by simp [aget]⟩
   rintro i h5 K ⟨hi,hw5,le5,hm,m,hmm,hg⟩ hK
   have p2:=(v3.mono (le3.trans le5)).rd1 (i:=2) (c:=mo) rfl
   simp [p2,hX.mlen]
   refine ap_split (fun hc=>?_) (fun hc=>?_)
   ·have hc:i < X.moves.length:=by omega
    have a1:=hX.mo.idx (i:=i) (by simpa using hc) .i64
    have a2:=(hX.mo.mono (lea.trans le5)).rd (i:=i) (l:=X.moves[i].cells) (by simp [hc])
    obtain ⟨h6,u1,u2,hw6,le6⟩:=newM hw5 X.moves[i]
    have c0:=u2.rd1 (i:=0) (c:=.int .i64 X.moves[i].src) rfl
    have c1:=u2.rd1 (i:=1) (c:=.int .i64 X.moves[i].dst) rfl
    have c2:=u2.rd1 (i:=2) (c:=.int .i32 X.moves[i].rune) rfl
    have p0:=(v3.mono (le3.trans (le5.trans le6))).rd1 (i:=0) (c:=.int .i64 X.states) rfl
    have rr:=(v2.mono (le3.trans (le5.trans le6))).rd (off:=0) (n:=2) (l:=[fe,le]) (by simp) rfl
    have tk:X.moves.take (i+1)=X.moves.take i++[X.moves[i]]:=List.take_succ_eq_append_getElem hc
    have no:¬ (moveOk A X.states X.moves[i]/\X.moves[i]∉X.moves.take i)->¬ AutoOk A X:=fun hn hh=>by
     have:=movesOk_take hh.2.2 (i+1)
     rw [tk,movesOk_snoc] at this
     exact hn this.2
    have lec:=lea.trans (le5.trans le6)
    have nS:∀ n,¬ (0<=n/\n < X.states)->¬ inS X.states n=true:=fun n hn hh=>hn (by simpa [inS] using hh)
    have yS:∀ n,0<=n->n < X.states->inS X.states n=true:=fun n h1 h2=>by simp [inS,h1,h2]
    simp [p2,a1,a2,u1,c0]
    refine ap_split (fun hq=>?_) (fun hq=>?_)
    ·simp only [decide_eq_true hq]
     simp
     refine bad _ hok (no fun hh=>nS _ (by omega) hh.1.1) lec
    simp only [decide_eq_false hq]
    simp [c0,p0]
    refine ap_split (fun hr=>?_) (fun hr=>?_)
    case' refine_2 =>
     simp only [decide_eq_false hr]
     simp
     refine bad _ hok (no fun hh=>nS _ (by omega) hh.1.1) lec
    simp only [decide_eq_true hr]
    simp [c1]
    refine ap_split (fun hs=>?_) (fun hs=>?_)
    ·simp only [decide_eq_true hs]
     simp
     refine bad _ hok (no fun hh=>nS _ (by omega) hh.1.2.1) lec
    simp only [decide_eq_false hs]
    simp [c1,p0]
    refine ap_split (fun ht=>?_) (fun ht=>?_)
    case' refine_2 =>
     simp only [decide_eq_false ht]
     simp
     refine bad _ hok (no fun hh=>nS _ (by omega) hh.1.2.1) lec
    simp only [decide_eq_true ht]
    simp [rr,c2]
    refine f76 (hA.mono lec) fun h7 w7 le7=>?_
    have led:=lec.trans le7
    simp
    refine ap_split (fun hu=>?_) (fun hu=>?_)
    ·simp only [decide_eq_true hu]
     simp
     refine bad _ hok (no fun hh=>hh.1.2.2 ?_) led
     rcases number_ge A.letters X.moves[i].rune 0 with e | e
     ·exact e
     ·omega
    simp only [decide_eq_false hu]
    have dd:=(u2.mono le7).rd (off:=0) (n:=3) (l:=X.moves[i].cells) (by simp) rfl
    have l2:lookupA ⟨62,true,[.int .i64,.int .i64,.int .i32]⟩ (.int .i64 0) false (.map h3.next) (.agg X.moves[i].cells) h7=found (.int .i64 0) false (Option.map vI (if X.moves[i]∈X.moves.take i then some 1 else none)):=by
     have:=(hmm.mono (le6.trans le7)).lookup (kd62 Int vI) X.moves[i] (.int .i64 0) false
     rw [hg] at this;exact this
    have e2:found (.int .i64 0) false (Option.map vI (if X.moves[i]∈X.moves.take i then some 1 else none))=some (.int .i64 (if X.moves[i]∈X.moves.take i then 1 else 0)):=by
     by_cases hin:X.moves[i]∈X.moves.take i
     ·rw [if_pos hin,if_pos hin];rfl
     ·rw [if_neg hin,if_neg hin];rfl
    rw [e2] at l2
    simp only [PMove.cells] at l2 dd
    simp [dd,l2]
    by_cases hin:X.moves[i]∈X.moves.take i
    ·simp [hin]
     refine bad _ hok (no fun hh=>hh.2 hin) led
    ·simp [hin]
     have le67:=le6.trans le7
     obtain ⟨h8,s1,s2,s3⟩:=(hmm.mono le67).update (kd62 Int vI) X.moves[i] 1
     have s1:updateA ⟨62,true,[.int .i64,.int .i64,.int .i32]⟩ (.map h3.next) (.agg [.int .i64 X.moves[i].src,.int .i64 X.moves[i].dst,.int .i32 X.moves[i].rune]) (.int .i64 1) h7=some (none,h8):=s1
     have hx5:=hmm.lt hw5
     have hx:=le67.next
     simp [dd,s1]
     rw [wrap64 (by omega) (by omega)]
     refine hK (i+1) _ _ (by omega) (by simp) ⟨by omega,s3.wf w7 (by omega),s3.hle (le5.trans le67) w3 (Nat.le_refl _),?_,_,s2,fun g=>?_⟩
     ·rw [tk,movesOk_snoc]
      refine ⟨hm,⟨yS _ (by omega) (by omega),yS _ (by omega) (by omega),fun e=>hu (by rw [e];omega)⟩,hin⟩
     ·rw [aget_aput,hg,tk]
      simp only [List.mem_append,List.mem_singleton]
      by_cases hgi:g=X.moves[i]
      ·simp [hgi]
      ·simp [hgi]
   ·have:i=X.moves.length:=by omega
    subst this
    rw [List.take_length] at hm
    simp
    exact good _ hok ⟨hsz,hends,hm⟩ (lea.trans le5)
 ·simp only [alphaE,if_neg hok]
  simp
  exact bad7 _ hok lea
end Go.Ab.Z
namespace Go.Ab.Z
open Go Go.Ab
variable {h:AHeap} {k:Post} {fe le en mo to:AVal} {A:PAlpha} {X Y:PAuto} {R:List (List Int)} {E:List Bool}
theorem and64 {a b:Nat} (ha:a < 18446744073709551616) (hb:b < 18446744073709551616):binI .and .u64 .u64 (a:Int) (b:Int)=some (.int .u64 ((a &&& b:Nat):Int)):=by
 have e:(BitVec.ofInt 64 (a:Int) &&& BitVec.ofInt 64 (b:Int)).toNat=a &&& b:=by
  rw [bvNat,bvNat,BitVec.toNat_and,BitVec.toNat_ofNat,BitVec.toNat_ofNat,Nat.mod_eq_of_lt (by simpa using ha),Nat.mod_eq_of_lt (by simpa using hb)]
 have hl:a &&& b < 2 ^ 64:=Nat.and_lt_two_pow _ (by simpa using hb)
 show (bi (sameK .u64 .u64) (some (AVal.int .u64 (IntKind.u64.wrap (BitVec.ofInt 64 (a:Int) &&& BitVec.ofInt 64 (b:Int)).toNat))) none)=_
 rw [sameK_self,bi_true,e,<-wrapF_eq,wrapU64 (by omega) (by simp at hl;omega)]
theorem shr64 (a:Nat):binI .shr .u64 .u64 (a:Int) 32=some (.int .u64 ((a / 4294967296:Nat):Int)):=by
 show some (AVal.int .u64 ((a:Int).fdiv (2 ^ (min 32 64))))=_
 rw [Int.fdiv_eq_ediv_of_nonneg _ (by decide)]
 rfl
theorem f195 {n:Nat} (hn:n<=128) (H:WF h->k (.tup [.int .u64 0,.int .u64 n]) h):Cf 195 [.int .u64 1,.int .u64 (n:Int)] h k:=by
 refine use_code compiled195 fun hw=>?_
 have m1:binI .and .u64 .u64 1 4294967295=some (.int .u64 1):=and64 (a:=1) (b:=4294967295) (by omega) (by omega)
 have m2:binI .and .u64 .u64 (n:Int) 4294967295=some (.int .u64 n):=by
  have:=and64 (a:=n) (b:=4294967295) (by omega) (by omega)
  rw [show n &&& 4294967295=n from by rw [show 4294967295=2 ^ 32 - 1 from rfl,Nat.and_two_pow_sub_one_eq_mod];exact Nat.mod_eq_of_lt (by omega)] at this
  exact this
 have m0:binI .and .u64 .u64 0 4294967295=some (.int .u64 0):=and64 (a:=0) (b:=4294967295) (by omega) (by omega)
 have s1:binI .shr .u64 .u64 1 32=some (.int .u64 0):=shr64 1
 have s2:binI .shr .u64 .u64 (n:Int) 32=some (.int .u64 0):=by have:=shr64 n;rw [Nat.div_eq_of_lt (by omega)] at this;exact this
 have s0:binI .shr .u64 .u64 0 32=some (.int .u64 0):=shr64 0
 have w1:wrapF .u64 (n:Int)=n:=wrapU64 (by omega) (by omega)
 have w0:wrapF .u64 0=0:=wrapU64 (by omega) (by omega)
 simp [fn195,m1,m2,m0,s1,s2,s0,w1,w0]
 exact H
theorem f162 {n:Nat} (hn:n<=128) (H:WF h->k (.tup [.int .u64 0,.int .u64 n]) h):Cf 162 [.int .u64 1,.int .u64 (n:Int)] h k:=by
 refine use_code compiled162 fun hw=>?_
 simp [fn162]
 refine f195 hn fun w=>?_
 simp
 exact H
@[simp] theorem sliceA_row (sz b off len cap:Nat) (lo hi mx:Option AVal) (h:AHeap):sliceA (.row sz) (.slice b off len cap sz) lo hi mx h=cutA b off len cap sz lo hi mx:=by
 show bi (Nat.beq sz sz) _ none=_
 rw [nbeq];simp
theorem cut_hi {b off len cap sz n:Nat} (hn:n<=cap):cutA b off len cap sz none (some (.int .i64 (n:Int))) none=some (.slice b off n cap sz):=by
 simp [cutA,hn]
theorem cut_lo {b off len cap sz n:Nat} (hn:n<=len) (hc:len<=cap):cutA b off len cap sz (some (.int .i64 (n:Int))) none none=some (.slice b (off+n*sz) (len - n) (cap - n) sz):=by
 simp [cutA,hn,hc]
@[simp] theorem nilCheckA_ptr (b o:Nat):nilCheckA (.ptr b o)=some (.ptr b o):=(rfl)
@[simp] theorem lenA_slice (b o l c z:Nat) (h:AHeap):lenA .row (.slice b o l c z) h=some (.int .i64 (l:Int)):=(rfl)
@[simp] theorem lenA_nils (h:AHeap):lenA .row .nils h=some (.int .i64 0):=(rfl)
theorem f127 {b n:Nat} (v:Blk h b [vI (-1)]) (h1:1<=n) (hn:n<=128) (H:∀ h',WF h'->Hle h h'->h'.next=h.next+1->Blk h' h.next (List.replicate n (vI (-1)))->k (.slice h.next 0 n n 1) h') :
  Cf 127 [.slice b 0 1 1 1,.int .i64 (n:Int)] h k:=by
 refine use_code compiled127 fun hw=>?_
 have w1:wrapF .u64 (n:Int)=n:=wrapU64 (by omega) (by omega)
 have w2:wrapF .i64 (n:Int)=n:=wrap64 (by omega) (by omega)
 have w3:wrapF .u64 1=1:=wrapU64 (by omega) (by omega)
 have hb:=v.lt hw
 simp [fn127]
 rw [decide_eq_false (by omega:¬ ((n:Int) < 0))]
 simp [w1,w3]
 refine f162 hn fun w=>?_
 simp
 rw [decide_eq_false (by omega:¬ ((9223372036854775807:Int) < (n:Int)))]
 simp [w2,repeatL_one]
 rw [decide_eq_true (by omega:n<=16777216)]
 simp
 have hw2:=hw.newCells (List.replicate n (vI 0))
 have v0:=Blk.new h (List.replicate n (vI 0))
 obtain ⟨h2,e1,e2,e3⟩:=v0.write (off:=0) (vs:=[vI (-1)]) (by simp;omega) rfl
 have m1:more (h.newCells (List.replicate n (.int .i64 0))) 1 (.slice b 0 1 1 1)=some (1,[vI (-1)]):=by
  have:=ORow.more (h:=h.newCells (List.replicate n (vI 0))) (sz:=1) (v:=.slice b 0 1 1 1) (n:=1) (cs:=[vI (-1)]) ⟨rfl,.inr ⟨b,1,[],rfl,by omega,by
   rw [List.append_nil];exact v.mono (Hle.newCells hw _)⟩⟩
  exact this
 have c1:copyA (h.newCells (List.replicate n (.int .i64 0))) 1 (.slice h.next 0 n n 1) (.slice b 0 1 1 1)=some (some (.int .i64 1),h2):=by
  unfold copyA
  rw [m1]
  simp only [ob_some,onRow_c,nbeq,decide_true,bi_true]
  rw [show Nat.min 1 n=1 from Nat.min_eq_left h1]
  simp only [Nat.one_mul,List.take_succ_cons,List.take_zero]
  rw [show (h.newCells (List.replicate n (.int .i64 0))).write h.next 0 [vI (-1)]=some h2 from e1]
  rfl
 simp [c1]
 have le2:Hle h h2:=e3.hle (Hle.newCells hw _) hw (Nat.le_refl _)
 rw [L127_1]
 refine loop_by (σ:=Nat) (fun i h'=>1<=i/\i<=n/\WF h'/\Hle h h'/\h'.next=h.next+1/\Blk h' h.next (List.replicate i (vI (-1))++List.replicate (n - i) (vI 0)))
  (fun i=>[(7,.slice h.next 0 n n 1),(8,.int .i64 i)]) (fun i=>n - i) 1 (by simp) ?_ ?_
 ·refine ⟨by omega,h1,e3.wf hw2 (by simp),le2,e3.next,?_⟩
  simp only [List.take_zero,List.nil_append,Nat.zero_add,List.length_singleton,List.drop_replicate] at e2
  exact e2
 rintro i h' K ⟨hi1,hi,hw',le',hnx,hv⟩ hK
 simp
 refine ap_split (fun hc=>?_) (fun hc=>?_)
 ·have hc:i < n:=by omega
  have hlen:(List.replicate i (vI (-1))++List.replicate (n - i) (vI 0)).length=n:=by simp;omega
  simp
  rw [cut_lo hi (Nat.le_refl _),Nat.zero_add,Nat.mul_one]
  simp
  rw [cut_hi hi]
  simp
  have hm:more h' 1 (.slice h.next 0 i n 1)=some (i,List.replicate i (vI (-1))):=by
   have:=ORow.more (h:=h') (sz:=1) (v:=.slice h.next 0 i n 1) (n:=i) (cs:=List.replicate i (vI (-1))) ⟨by simp,.inr ⟨h.next,n,List.replicate (n - i) (vI 0),rfl,hi,hv⟩⟩
   exact this
  obtain ⟨h3,u1,u2,u3⟩:=hv.write (off:=i) (vs:=(List.replicate i (vI (-1))).take (min i (n - i))) (by rw [hlen];simp;omega) (by rw [allOne_iff];intro x hx;rw [List.take_replicate] at hx;rw [List.eq_of_mem_replicate hx];rfl)
  have c2:copyA h' 1 (.slice h.next i (n - i) (n - i) 1) (.slice h.next 0 i n 1)=some (some (.int .i64 ((min i (n - i):Nat):Int)),h3):=by
   unfold copyA
   rw [hm]
   simp only [ob_some,onRow_c,nbeq,decide_true,bi_true,Nat.mul_one]
   rw [show Nat.min i (n - i)=min i (n - i) from rfl,u1]
   rfl
  simp [c2]
  rw [wrap64 (by omega) (by omega)]
  refine hK (i+min i (n - i)) _ _ (by omega) (by simp) ⟨by omega,by omega,u3.wf hw' (by omega),u3.hle le' hw (Nat.le_refl _),by rw [u3.next];exact hnx,?_⟩
  have key:(List.replicate i (vI (-1))++List.replicate (n - i) (vI 0)).take i++(List.replicate i (vI (-1))).take (min i (n - i))++(List.replicate i (vI (-1))++List.replicate (n - i) (vI 0)).drop (i+((List.replicate i (vI (-1))).take (min i (n - i))).length)
    = List.replicate (i+min i (n - i)) (vI (-1))++List.replicate (n - (i+min i (n - i))) (vI 0):=by
   rw [List.take_left' (by simp),List.take_replicate,List.length_replicate,List.drop_append,List.drop_eq_nil_of_le (by simp),List.nil_append,List.length_replicate,List.drop_replicate,List.replicate_append_replicate]
   congr 2<;>omega
  rw [key] at u2
  exact u2
 ·have:i=n:=by omega
  subst this
  simp
  intro w
  exact H _ w le' hnx (by simpa using hv)
end Go.Ab.Z
namespace Go.Ab.Z
open Go Go.Ab
variable {h h':AHeap} {k:Post} {fe le en mo to:AVal} {A:PAlpha} {X Y:PAuto} {R:List (List Int)} {E:List Bool}
def blkOf (v:AVal):List Nat:=match v with
 | .slice b _ _ _ _=>[b]
 | _=>[]
def Kp (h h':AHeap) (b:Nat):Prop:=∀ x,h.get b=some x->h'.get b=some x
structure Hx (own:List Nat) (h h':AHeap):Prop where
 next:h.next<=h'.next
 get:∀ b,b∉own->Kp h h' b
theorem Kp.trans {b:Nat} {h₁ h₂ h₃:AHeap} (a:Kp h₁ h₂ b) (c:Kp h₂ h₃ b):Kp h₁ h₃ b:=fun x e=>c x (a x e)
theorem Kp.refl (h:AHeap) (b:Nat):Kp h h b:=fun _ e=>e
theorem Hle.kp (l:Hle h h') (b:Nat):Kp h h' b:=l.get b
theorem But.kp {m b:Nat} (l:But m h h') (hb:b≠m):Kp h h' b:=fun x e=>by rw [l.get b hb];exact e
theorem Hx.hle (l:Hx [] h h'):Hle h h':=⟨l.next,fun b x e=>l.get b (by simp) x e⟩
theorem Blk.kp {b:Nat} {cs:List AVal} (v:Blk h b cs) (k:Kp h h' b):Blk h' b cs:=let ⟨a,m,e,r⟩:=v;⟨a,m,k _ e,r⟩
theorem same_row {h:AHeap} {sz:Nat} {v:AVal} {ls:List (List AVal)} (r:Row h sz v ls):sameV v v=true:=by
 obtain ⟨_,⟨rfl,_⟩ | ⟨b,off,cap,rfl,_⟩⟩:=r
 ·rfl
 ·simp [sameV,same1]
theorem same_orow {sz n:Nat} {v:AVal} {cs:List AVal} (o:ORow h sz v n cs):sameV v v=true:=by
 obtain ⟨_,⟨rfl,rfl⟩ | ⟨b,cap,rest,rfl,_⟩⟩:=o
 ·rfl
 ·simp [sameV,same1]
theorem own_lt {sz n:Nat} {v:AVal} {cs:List AVal} (o:ORow h sz v n cs) (w:WF h):∀ j∈blkOf v,j < h.next:=by
 obtain ⟨_,⟨rfl,rfl⟩ | ⟨b,cap,rest,rfl,_,r⟩⟩:=o
 ·intro j hj;cases hj
 ·intro j hj;simp [blkOf] at hj;subst hj;exact r.lt w
theorem own_kp {sz n:Nat} {v:AVal} {cs:List AVal} (o:ORow h sz v n cs) (k:∀ j∈blkOf v,Kp h h' j):ORow h' sz v n cs:=by
 refine ⟨o.1,o.2.imp id fun ⟨b,cap,rest,e,e2,r⟩=>⟨b,cap,rest,e,e2,Blk.kp r (k b (by rw [e];simp [blkOf]))⟩⟩
theorem orow_kinds {sz n:Nat} {v:AVal} {cs:List AVal} (o:ORow h sz v n cs):v=.nils\/∃ b o l c z,v=.slice b o l c z:=o.2.imp (fun e=>e.1) fun ⟨b,cap,_,e,_⟩=>⟨b,0,n,cap,sz,e⟩
theorem grown_kp {v:AVal} (g:Grown v h h') (w:WF h) (hv:v=.nils\/∃ b o l c z,v=.slice b o l c z) {j:Nat} (hn:j∉blkOf v):Kp h h' j:=fun x e=>by
 rw [g.get j (w.lt e) ?_];exact e
 rcases hv with e | ⟨b,o,l,c,z,rfl⟩
 ·exact .inl e
 ·right;intro e;exact hn (by rw [e];simp [blkOf])
def rowS (L:Nat) (b:Nat):AVal:=.slice b 0 L L 1
structure MachR (h:AHeap) (m:Nat) (fe le:AVal) (L:Nat) (R:List (List Int)) (E:List Bool) (tv ev:AVal) (rb:List Nat):Prop where
 box:Blk h m [fe,le,tv,ev]
 to:ORow h 1 tv R.length (rb.map (rowS L))
 en:ORow h 1 ev E.length (E.map .bool)
 nr:rb.length=R.length
 ne:E.length=R.length
 rows:∀ (i b:Nat) (r:List Int),rb[i]?=some b->R[i]?=some r->Blk h b (r.map vI)/\r.length=L
 nd:(m :: (blkOf tv++(blkOf ev++rb))).Nodup
def Mach (h:AHeap) (m:Nat) (fe le:AVal) (L:Nat) (R:List (List Int)) (E:List Bool) (own:List Nat):Prop:=∃ tv ev rb,own=m :: (blkOf tv++(blkOf ev++rb))/\MachR h m fe le L R E tv ev rb
theorem MachR.kp {m:Nat} {L:Nat} {tv ev:AVal} {rb:List Nat} (M:MachR h m fe le L R E tv ev rb) (k:∀ j∈m :: (blkOf tv++(blkOf ev++rb)),Kp h h' j):MachR h' m fe le L R E tv ev rb :=
 ⟨Blk.kp M.box (k m (by simp)),own_kp M.to fun j hj=>k j (by simp [hj]),own_kp M.en fun j hj=>k j (by simp [hj]),M.nr,M.ne,fun i b r h1 h2=>by
  obtain ⟨h3,h4⟩:=M.rows i b r h1 h2
  exact ⟨Blk.kp h3 (k b (by have:=List.mem_of_getElem? h1;simp [this])),h4⟩,M.nd⟩
theorem Mach.kp {m L:Nat} {own:List Nat} (M:Mach h m fe le L R E own) (k:∀ j∈own,Kp h h' j):Mach h' m fe le L R E own:=by
 obtain ⟨tv,ev,rb,rfl,M⟩:=M
 exact ⟨tv,ev,rb,rfl,M.kp k⟩
theorem Mach.mono {m L:Nat} {own:List Nat} (M:Mach h m fe le L R E own) (k:Hle h h'):Mach h' m fe le L R E own:=M.kp fun j _=>k.get j
theorem MachR.lt {m:Nat} {L:Nat} {tv ev:AVal} {rb:List Nat} (M:MachR h m fe le L R E tv ev rb) (w:WF h):∀ j∈m :: (blkOf tv++(blkOf ev++rb)),j < h.next:=by
 intro j hj
 simp only [List.mem_cons,List.mem_append] at hj
 rcases hj with rfl | hj | hj | hj
 ·exact M.box.lt w
 ·exact own_lt M.to w j hj
 ·exact own_lt M.en w j hj
 ·obtain ⟨i,hi,rfl⟩:=List.getElem_of_mem hj
  have hi':i < R.length:=by rw [<-M.nr];exact hi
  exact (M.rows i rb[i] R[i] (by simp [hi]) (by simp [hi'])).1.lt w
theorem Mach.lt {m L:Nat} {own:List Nat} (M:Mach h m fe le L R E own) (w:WF h):∀ j∈own,j < h.next:=by
 obtain ⟨tv,ev,rb,rfl,M⟩:=M
 exact M.lt w
theorem MachR.rowsI {m:Nat} {L:Nat} {tv ev:AVal} {rb:List Nat} (M:MachR h m fe le L R E tv ev rb):IsRows h tv R:=by
 refine ⟨rb.map (rowS L),by simp [M.nr],M.to.row1,fun i r x h1 h2=>?_⟩
 rw [List.getElem?_map] at h2
 cases hb:rb[i]? with
 | none=>rw [hb] at h2;cases h2
 | some b =>
  rw [hb] at h2;cases h2
  obtain ⟨h3,h4⟩:=M.rows i b r hb h1
  have:=h3.row1 (cap:=L) (by simp [h4])
  simpa [rowS,h4] using this
theorem f71 {m L:Nat} {own:List Nat} (M:Mach h m fe le L R E own) (hA:IsAlpha h fe le A) (hL:L=A.letters.length) (h1:1<=L) (hn:L<=128) (hR:R.length<=1000000) (e:Bool)
  (H:∀ h' own',WF h'->Mach h' m fe le L (R++[List.replicate L (-1)]) (E++[e]) own'->(∀ j∈own',j∈own\/h.next<=j)->Hx own h h'->k (.int .i64 R.length) h') :
  Cf 71 [.ptr m 0,.bool e] h k:=by
 refine use_code compiled71 fun hw=>?_
 obtain ⟨tv,ev,rb,rfl,M⟩:=M
 have hlt:=M.lt hw
 have hm:=M.box.lt hw
 have r1:=M.box.rd1 (i:=1) (c:=le) rfl
 have r2:=M.box.rd1 (i:=2) (c:=tv) rfl
 have hle1:=Hle.newCells hw [vI (-1)]
 have hw1:=hw.newCells [vI (-1)]
 have sl:=same_row hA.le
 have st:=same_orow M.to
 simp [fn71,nilCheckA,r1,r2,hA.llen]
 simp [show m≠h.next by omega,r1,r2,sl,st,listPut]
 rw [<-hL]
 refine f127 (b:=h.next) (n:=L) (Blk.new h [vI (-1)]) h1 hn fun h2 w2 le2 nx2 v2=>?_
 have lea:=hle1.trans le2
 simp at nx2
 simp at v2
 have q2:=(M.box.mono lea).rd1 (i:=2) (c:=tv) rfl
 simp [q2,st,listPut]
 have hw3:=w2.newCells [rowS L (h.next+1)]
 have le3:=lea.trans (Hle.newCells w2 [rowS L (h.next+1)])
 simp [show m≠h2.next by omega,q2,st]
 have m3:more (h2.newCells [rowS L (h.next+1)]) 1 (.slice h2.next 0 1 1 1)=some (1,[rowS L (h.next+1)]):=(ORow.fresh h2 (sz:=1) (n:=1) (cs:=[rowS L (h.next+1)]) rfl).more
 obtain ⟨h4,a1,a2,a3,a4⟩:=(M.to.mono le3).append hw3 m3 rfl (by omega) (by omega) rfl
 have nx4:h4.next=h.next+4:=by rw [a4.next];simp;omega
 have kt:=orow_kinds M.to
 have ke:=orow_kinds M.en
 have nd:=M.nd
 simp only [List.nodup_cons,List.mem_append,not_or] at nd
 obtain ⟨⟨nt,nev,nrb⟩,nd⟩:=nd
 rw [List.nodup_append] at nd
 obtain ⟨ndt,nd2,ndx⟩:=nd
 rw [List.nodup_append] at nd2
 obtain ⟨nde,ndr,ndy⟩:=nd2
 have kp4:∀ j,j∉blkOf tv->Kp h h4 j:=fun j hj=>Kp.trans (Hle.kp le3 j) (grown_kp a4 hw3 kt hj)
 have b4:=Blk.kp M.box (kp4 m nt)
 have ht':∀ j∈blkOf tv,j < h.next:=own_lt M.to hw
 have he':∀ j∈blkOf ev,j < h.next:=own_lt M.en hw
 simp only [next_newCells,nx2] at a1 a2
 obtain ⟨h5,c1,c2,c3⟩:=b4.write1 (i:=2) (c:=.slice (h.next+1+1+1) 0 (R.length+1) (R.length+1) 1) (by simp) rfl
 have hw5:WF h5:=c3.wf a3 (by omega)
 have nx5:h5.next=h.next+4:=by rw [c3.next];exact nx4
 simp at c1 c2
 have p3:=c2.rd1 (i:=3) (c:=ev) rfl
 simp only [rowS] at a1
 rw [nx2]
 simp [a1,c1,p3,listPut]
 have kp5:∀ j,j∉blkOf tv->j≠m->Kp h h5 j:=fun j hj hjm=>Kp.trans (kp4 j hj) (But.kp c3 hjm)
 have en5:ORow h5 1 ev E.length (E.map .bool):=own_kp M.en fun j hj=>kp5 j (fun hjt=>ndx j hjt j (by simp [hj]) rfl) (fun e=>nev (e ▸ hj))
 have hw6:=hw5.newCells [.bool e]
 have le6:=Hle.newCells hw5 [.bool e]
 have m6:more (h5.newCells [.bool e]) 1 (.slice h5.next 0 1 1 1)=some (1,[.bool e]):=(ORow.fresh h5 (sz:=1) (n:=1) (cs:=[.bool e]) rfl).more
 obtain ⟨h7,d1,d2,d3,d4⟩:=(en5.mono le6).append hw6 m6 rfl (by omega) (by have:=M.ne;omega) rfl
 have nx7:h7.next=h.next+6:=by rw [d4.next];simp;omega
 have kp57:∀ j,j∉blkOf ev->Kp h5 h7 j:=fun j hj=>Kp.trans (Hle.kp le6 j) (grown_kp d4 hw6 ke hj)
 have b7:=Blk.kp c2 (kp57 m nev)
 simp only [next_newCells,nx5] at d1 d2
 obtain ⟨h8,e1,e2,e3⟩:=b7.write1 (i:=3) (c:=.slice (h.next+4+1) 0 (E.length+1) (E.length+1) 1) (by simp) rfl
 have hw8:WF h8:=e3.wf d3 (by omega)
 have nx8:h8.next=h.next+6:=by rw [e3.next];exact nx7
 simp at e1 e2
 have p2:=e2.rd1 (i:=2) (c:=.slice (h.next+1+1+1) 0 (R.length+1) (R.length+1) 1) rfl
 rw [nx5]
 simp [d1,e1,p2]
 have w1:wrapF .i64 (R.length:Int)=R.length:=wrap64 (by omega) (by omega)
 rw [w1]
 intro w
 have kp8:∀ j,j≠m->j∉blkOf tv->j∉blkOf ev->Kp h h8 j:=fun j j1 j2 j3=>Kp.trans (kp5 j j2 j1) (Kp.trans (kp57 j j3) (But.kp e3 j1))
 have kp48:∀ j,j≠m->j∉blkOf ev->Kp h4 h8 j:=fun j j1 j3=>Kp.trans (But.kp c3 j1) (Kp.trans (kp57 j j3) (But.kp e3 j1))
 have kp28:∀ j,j≠m->j∉blkOf tv->j∉blkOf ev->Kp h2 h8 j:=fun j j1 j2 j3=>Kp.trans (Hle.kp (Hle.newCells w2 _) j) (Kp.trans (grown_kp a4 hw3 kt j2) (kp48 j j1 j3))
 refine H h8 _ w ⟨.slice (h.next+1+1+1) 0 (R.length+1) (R.length+1) 1,.slice (h.next+4+1) 0 (E.length+1) (E.length+1) 1,rb++[h.next+1],rfl,e2,?_,?_,?_,?_,?_,?_⟩ ?_ ⟨by omega,fun j hj=>?_⟩
 ·rw [List.length_append,List.length_singleton,List.map_append]
  exact own_kp a2 fun j hj=>by
   simp [blkOf] at hj;subst hj
   exact kp48 _ (by omega) fun hj=>by have:=he' _ hj;omega
 ·rw [List.length_append,List.length_singleton,List.map_append]
  exact own_kp d2 fun j hj=>by
   simp [blkOf] at hj;subst hj
   exact But.kp e3 (by omega)
 ·simp [M.nr]
 ·simp [M.ne]
 ·intro i b r hb hr
  by_cases hi:i < rb.length
  ·rw [List.getElem?_append_left hi] at hb
   rw [List.getElem?_append_left (by rw [<-M.nr];exact hi)] at hr
   obtain ⟨g1,g2⟩:=M.rows i b r hb hr
   have hbm:=List.mem_of_getElem? hb
   exact ⟨Blk.kp g1 (kp8 b (fun e=>nrb (e ▸ hbm)) (fun hj=>ndx b hj b (by simp [hbm]) rfl) (fun hj=>ndy b hj b hbm rfl)),g2⟩
  ·rw [List.getElem?_append_right (by omega)] at hb
   rw [List.getElem?_append_right (by rw [<-M.nr];omega)] at hr
   have hz:i - rb.length=0:=by
    have:=(List.getElem?_eq_some_iff.1 hb).1;simp at this;omega
   rw [hz] at hb
   rw [<-M.nr,hz] at hr
   simp at hb hr
   subst hb;subst hr
   refine ⟨?_,by simp⟩
   rw [List.map_replicate]
   exact Blk.kp v2 (kp28 _ (by omega) (fun hj=>by have:=ht' _ hj;omega) (fun hj=>by have:=he' _ hj;omega))
 ·have hrb:∀ j∈rb,j < h.next:=fun j hj=>hlt j (by simp [hj])
  simp only [blkOf,List.cons_append,List.nil_append,List.nodup_cons,List.mem_cons,List.mem_append,List.not_mem_nil,or_false,not_or]
  refine ⟨⟨by omega,by omega,nrb,by omega⟩,⟨by omega,fun hj=>by have:=hrb _ hj;omega,by omega⟩,⟨fun hj=>by have:=hrb _ hj;omega,by omega⟩,?_⟩
  rw [List.nodup_append]
  exact ⟨ndr,by simp,fun a ha b hb e=>by simp at hb;have:=hrb a ha;omega⟩
 ·intro j hj
  simp only [blkOf,List.cons_append,List.nil_append,List.mem_cons,List.mem_append,List.not_mem_nil,or_false] at hj
  rcases hj with rfl | rfl | rfl | hj | rfl
  ·exact .inl (by simp)
  ·exact .inr (by omega)
  ·exact .inr (by omega)
  ·exact .inl (by simp [hj])
  ·exact .inr (by omega)
 ·simp only [List.mem_cons,List.mem_append,not_or] at hj
  exact kp8 j hj.1 hj.2.1 hj.2.2.1
end Go.Ab.Z
namespace Go.Ab.Z
open Go Go.Ab
variable {h h':AHeap} {k:Post} {fe le en mo to:AVal} {A:PAlpha} {X Y:PAuto} {R:List (List Int)} {E:List Bool}
structure NestR (h:AHeap) (bv:AVal) (B:List (List Int)) (vs:List AVal):Prop where
 out:ORow h 1 bv B.length vs
 nv:vs.length=B.length
 rows:∀ (t:Nat) (v:AVal) (l:List Int),vs[t]?=some v->B[t]?=some l->ORow h 1 v l.length (l.map vI)
 sep:∀ (t t':Nat) (v v':AVal),vs[t]?=some v->vs[t']?=some v'->t≠t'->∀ j∈blkOf v,j∉blkOf v'
 apart:∀ (t:Nat) (v:AVal),vs[t]?=some v->∀ j∈blkOf v,j∉blkOf bv
def OwnN (bv:AVal) (vs:List AVal) (j:Nat):Prop:=j∈blkOf bv\/∃ (t:Nat) (v:AVal),vs[t]?=some v/\j∈blkOf v
section
variable {bv:AVal} {B:List (List Int)} {vs:List AVal}
theorem NestR.kp (N:NestR h bv B vs) (k:∀ j,OwnN bv vs j->Kp h h' j):NestR h' bv B vs :=
 ⟨own_kp N.out fun j hj=>k j (.inl hj),N.nv,fun t v l h1 h2=>own_kp (N.rows t v l h1 h2) fun j hj=>k j (.inr ⟨t,v,h1,hj⟩),N.sep,N.apart⟩
theorem NestR.mono (N:NestR h bv B vs) (k:Hle h h'):NestR h' bv B vs:=N.kp fun j _=>k.get j
theorem NestR.lt (N:NestR h bv B vs) (w:WF h):∀ j,OwnN bv vs j->j < h.next:=by
 rintro j (hj | ⟨t,v,h1,hj⟩)
 ·exact own_lt N.out w j hj
 ·have ht:=(List.getElem?_eq_some_iff.1 h1).1
  have ht':t < B.length:=by rw [<-N.nv];exact ht
  exact own_lt (N.rows t v B[t] h1 (by simp [ht'])) w j hj
theorem blkOf_rowB {v:AVal} (hv:v=.nils\/∃ b o l c z,v=.slice b o l c z) (hne:v≠.nils):blkOf v=[rowB v]:=by
 rcases hv with e | ⟨b,o,l,c,z,rfl⟩
 ·exact absurd e hne
 ·rfl
theorem NestR.push (N:NestR h bv B vs) (w:WF h) {t:Nat} (ht:t < B.length) (s:Int) (hn:B[t].length < 1048576):∃ v h2 h3,vs[t]?=some v/\ORow h 1 v B[t].length (B[t].map vI) /\
  appendA (h.newCells [vI s]) 1 v (.slice h.next 0 1 1 1)=some (some (.slice (h.next+1) 0 (B[t].length+1) (B[t].length+1) 1),h2) /\
  h2.write (rowB bv) t [.slice (h.next+1) 0 (B[t].length+1) (B[t].length+1) 1]=some h3/\WF h3/\h3.next=h.next+2 /\
  NestR h3 bv (B.set t (B[t]++[s])) (vs.set t (.slice (h.next+1) 0 (B[t].length+1) (B[t].length+1) 1))/\(∀ j,¬ OwnN bv vs j->Kp h h3 j) /\
  (∀ j,OwnN bv (vs.set t (.slice (h.next+1) 0 (B[t].length+1) (B[t].length+1) 1)) j->OwnN bv vs j\/j=h.next+1)/\h.next<=h2.next/\∀ j,¬ OwnN bv vs j->Kp h h2 j:=by
 have htv:t < vs.length:=by rw [N.nv];exact ht
 have ev:vs[t]?=some vs[t]:=by simp [htv]
 have eB:B[t]?=some B[t]:=by simp [ht]
 have o:=N.rows t vs[t] B[t] ev eB
 have le1:=Hle.newCells w [vI s]
 have w1:=w.newCells [vI s]
 have m1:more (h.newCells [vI s]) 1 (.slice h.next 0 1 1 1)=some (1,[vI s]):=(ORow.fresh h (sz:=1) (n:=1) (cs:=[vI s]) rfl).more
 obtain ⟨h2,a1,a2,a3,a4⟩:=(o.mono le1).append w1 m1 rfl (by omega) (by omega) rfl
 simp only [next_newCells] at a1 a2
 have hbne:bv≠.nils:=by
  intro e
  obtain ⟨_,⟨_,e2⟩ | ⟨b,cap,rest,e2,_⟩⟩:=N.out
  ·omega
  ·rw [e] at e2;cases e2
 have eb:=blkOf_rowB (orow_kinds N.out) hbne
 have hblt:=own_lt N.out w (rowB bv) (by rw [eb];simp)
 have kv:=orow_kinds o
 have kp2:∀ j,j∉blkOf vs[t]->Kp h h2 j:=fun j hj=>Kp.trans (Hle.kp le1 j) (grown_kp a4 w1 kv hj)
 have nb:rowB bv∉blkOf vs[t]:=fun hj=>N.apart t vs[t] ev _ hj (by rw [eb];simp)
 have o2:ORow h2 1 bv B.length vs:=own_kp N.out fun j hj=>by rw [eb] at hj;simp at hj;subst hj;exact kp2 _ nb
 obtain ⟨h3,b1,b2,b3⟩:=o2.write1 (i:=t) (c:=.slice (h.next+1) 0 (B[t].length+1) (B[t].length+1) 1) ht rfl
 have nx2:h2.next=h.next+2:=by rw [a4.next];simp
 have hlt:∀ j,OwnN bv vs j->j < h.next:=N.lt w
 have get_set:∀ {t':Nat} {v:AVal},(vs.set t (.slice (h.next+1) 0 (B[t].length+1) (B[t].length+1) 1))[t']?=some v->(t'=t/\v=.slice (h.next+1) 0 (B[t].length+1) (B[t].length+1) 1)\/(t'≠t/\vs[t']?=some v):=by
  intro t' v e
  rw [List.getElem?_set] at e
  by_cases h:t=t'
  ·subst h;rw [if_pos rfl,if_pos htv] at e;cases e;exact .inl ⟨rfl,rfl⟩
  ·rw [if_neg h] at e;exact .inr ⟨fun e=>h e.symm,e⟩
 refine ⟨vs[t],h2,h3,ev,o,a1,b1,b3.wf a3 (by omega),by rw [b3.next];exact nx2,⟨?_,by simp [N.nv],?_,?_,?_⟩,fun j hj=>?_,?_,by omega,fun j hj=>kp2 j fun hj'=>hj (.inr ⟨t,vs[t],ev,hj'⟩)⟩
 ·rw [List.length_set];exact b2
 ·intro t' v l hv hl
  rcases get_set hv with ⟨rfl,rfl⟩ | ⟨hne,hv⟩
  ·rw [List.getElem?_set,if_pos rfl,if_pos ht] at hl;cases hl
   rw [List.length_append,List.length_singleton,List.map_append]
   exact own_kp a2 fun j hj=>by simp [blkOf] at hj;subst hj;exact But.kp b3 (by omega)
  ·rw [List.getElem?_set,if_neg (Ne.symm hne)] at hl
   refine own_kp (N.rows t' v l hv hl) fun j hj=>Kp.trans (kp2 j (N.sep t' t v vs[t] hv ev hne j hj)) (But.kp b3 fun e=>?_)
   subst e;exact N.apart t' v hv _ hj (by rw [eb];simp)
 ·intro t1 t2 v v' h1 h2 hne j hj hj'
  rcases get_set h1 with ⟨e1,e2⟩ | ⟨n1,h1⟩
  ·rcases get_set h2 with ⟨e3,e4⟩ | ⟨n2,h2⟩
   ·exact hne (e1.trans e3.symm)
   ·subst e2;simp [blkOf] at hj;subst hj
    have:=hlt _ (.inr ⟨t2,v',h2,hj'⟩);omega
  ·rcases get_set h2 with ⟨e3,e4⟩ | ⟨n2,h2⟩
   ·subst e4;simp [blkOf] at hj';subst hj'
    have:=hlt _ (.inr ⟨t1,v,h1,hj⟩);omega
   ·exact N.sep t1 t2 v v' h1 h2 hne j hj hj'
 ·intro t1 v h1 j hj hj'
  rcases get_set h1 with ⟨rfl,rfl⟩ | ⟨n1,h1⟩
  ·simp [blkOf] at hj;subst hj
   have:=hlt _ (.inl hj');omega
  ·exact N.apart t1 v h1 j hj hj'
 ·refine Kp.trans (kp2 j fun hj'=>hj (.inr ⟨t,vs[t],ev,hj'⟩)) (But.kp b3 fun e=>?_)
  subst e;exact hj (.inl (by rw [eb];simp))
 ·rintro j (hj | ⟨t',v,h1,hj⟩)
  ·exact .inl (.inl hj)
  ·rcases get_set h1 with ⟨rfl,rfl⟩ | ⟨n1,h1⟩
   ·simp [blkOf] at hj;exact .inr hj
   ·exact .inl (.inr ⟨t',v,h1,hj⟩)
theorem NestR.new (h:AHeap) (n:Nat):NestR (h.newCells (List.replicate n .nils)) (.slice h.next 0 n n 1) (List.replicate n []) (List.replicate n .nils):=by
 refine ⟨by rw [List.length_replicate];exact ORow.fresh h (by simp),by simp,fun t v l h1 h2=>?_,fun t t' v v' h1 h2 _ j hj=>?_,fun t v h1 j hj=>?_⟩
 ·rw [List.getElem?_replicate] at h1 h2
  split at h1
  ·cases h1;rename_i ht;rw [if_pos ht] at h2;cases h2;exact ORow.nil _ _
  ·cases h1
 ·rw [List.getElem?_replicate] at h1
  split at h1
  ·cases h1;cases hj
  ·cases h1
 ·rw [List.getElem?_replicate] at h1
  split at h1
  ·cases h1;cases hj
  ·cases h1
theorem NestR.get (N:NestR h bv B vs) {t:Nat} (ht:t < B.length):∃ v,vs[t]?=some v/\indexAddrS 1 bv (.int .i64 (t:Int))=some (.ptr (rowB bv) t)/\h.read1 (rowB bv) t=some v/\ORow h 1 v B[t].length (B[t].map vI):=by
 have htv:t < vs.length:=by rw [N.nv];exact ht
 have ev:vs[t]?=some vs[t]:=by simp [htv]
 obtain ⟨rest,r⟩:=N.out.blk (by omega)
 have i1:=N.out.idx ht .i64
 rw [Nat.mul_one] at i1
 exact ⟨vs[t],ev,i1,r.rd1 (by rw [List.getElem?_append_left htv];exact ev),N.rows t vs[t] B[t] ev (by simp [ht])⟩
end
theorem f185 {v:AVal} {bs:List Bool} (hv:Row1 h v (bs.map .bool)) (h0:bs≠[]) (hn:bs.length<=1048576) (H:∀ h' b,WF h'->Hle h h'->h.next<=b->ORow h' 1 (.slice b 0 bs.length bs.length 1) bs.length (bs.map .bool)->k (.slice b 0 bs.length bs.length 1) h'):Cf 185 [v] h k:=by
 refine use_code compiled185 fun hw=>?_
 obtain ⟨_,⟨_,e⟩ | ⟨b,off,cap,rfl,hcap,hat⟩⟩:=id hv
 ·exact absurd (by simpa using e) h0
 have hpos:0 < bs.length:=by cases bs with | nil=>exact absurd rfl h0 | cons _ _=>simp
 have le1:=Hle.newCells hw []
 have m1:more (h.newCells []) 1 (.slice b off ((bs.map AVal.bool).map fun c=>[c]).length cap 1)=some (bs.length,bs.map .bool):=by
  obtain ⟨n,a,m,e,hle,q⟩:=hat.mono le1
  have rd:(h.newCells []).read b off (bs.length*1)=some (bs.map .bool):=by
   unfold AHeap.read
   rw [e]
   simp at hle
   simp only [ob_some,onCells_c,nble]
   rw [decide_eq_true (by omega),bi_true]
   refine readCells_of _ _ _ (by simp) fun j c hc=>?_
   have:=q j [c] (by rw [List.getElem?_map,hc];rfl) 0 c rfl
   rw [<-this];congr 2;omega
  show bi (Nat.beq 1 1) (ob ((h.newCells []).read b off (((bs.map AVal.bool).map fun c=>[c]).length*1)) fun l=>some (((bs.map AVal.bool).map fun c=>[c]).length,l)) none=_
  simp only [List.length_map]
  rw [rd];rfl
 obtain ⟨h2,a1,a2,a3,a4⟩:=(ORow.fresh h (sz:=1) (n:=0) (cs:=[]) rfl).append (hw.newCells []) m1 (by simp) hpos (by omega) (by rw [allOne_iff];intro x hx;obtain ⟨c,_,rfl⟩:=List.mem_map.1 hx;rfl)
 simp at a1 a2
 have e1:binA h .eql .slice (.slice b off bs.length cap 1) .nils=some (.bool false):=rfl
 simp [fn185,e1,a1]
 intro w
 have le2:Hle h h2:=⟨by rw [a4.next];simp;omega,fun j x e=>grown_kp a4 (hw.newCells []) (.inr ⟨_,_,_,_,_,rfl⟩) (by simp [blkOf];have:=hw.lt e;omega) x (le1.get j x e)⟩
 exact H h2 (h.next+1) w le2 (by omega) a2
end Go.Ab.Z
namespace Go.Ab.Z
open Go Go.Ab
variable {h h':AHeap} {k:Post} {fe le en mo to:AVal} {A:PAlpha} {X Y:PAuto} {R:List (List Int)} {E:List Bool}
inductive Live (R:List (List Int)) (E:List Bool):Nat->Prop
 | fin {s:Nat}:E[s]?=some true->Live R E s
 | step {s t:Nat} {r:List Int}:R[s]?=some r->(t:Int)∈r->Live R E t->Live R E s
def BackOk (R:List (List Int)) (i j:Nat) (B:List (List Int)):Prop:=B.length=R.length /\
 (∀ (t:Nat) (ht:t < B.length) (x:Int),x∈B[t]↔∃ s:Nat,x=s/\((s < i/\(t:Int)∈R.getD s [])\/(s=i/\(t:Int)∈(R.getD i []).take j))) /\
 ∀ (t:Nat) (ht:t < B.length),B[t].length<=i*128+j
theorem BackOk.next {i:Nat} {B:List (List Int)} (b:BackOk R i (R.getD i []).length B) (hl:(R.getD i []).length<=128):BackOk R (i+1) 0 B:=by
 refine ⟨b.1,fun t ht x=>?_,fun t ht=>by have:=b.2.2 t ht;omega⟩
 rw [b.2.1 t ht x]
 constructor
 ·rintro ⟨s,rfl,h | ⟨rfl,h⟩⟩
  ·exact ⟨s,rfl,.inl ⟨by omega,h.2⟩⟩
  ·rw [List.take_length] at h;exact ⟨s,rfl,.inl ⟨by omega,h⟩⟩
 ·rintro ⟨s,rfl,⟨h1,h2⟩ | ⟨_,h⟩⟩
  ·by_cases hs:s=i
   ·subst hs;exact ⟨s,rfl,.inr ⟨rfl,by rw [List.take_length];exact h2⟩⟩
   ·exact ⟨s,rfl,.inl ⟨by omega,h2⟩⟩
  ·rw [List.take_zero] at h;cases h
theorem BackOk.skip {i j:Nat} {B:List (List Int)} (b:BackOk R i j B) (hj:j < (R.getD i []).length) (hneg:(R.getD i [])[j] < 0):BackOk R i (j+1) B:=by
 refine ⟨b.1,fun t ht x=>?_,fun t ht=>by have:=b.2.2 t ht;omega⟩
 rw [b.2.1 t ht x,List.take_succ_eq_append_getElem hj]
 simp only [List.mem_append,List.mem_singleton]
 constructor
 ·rintro ⟨s,rfl,h | ⟨h1,h2⟩⟩
  ·exact ⟨s,rfl,.inl h⟩
  ·exact ⟨s,rfl,.inr ⟨h1,.inl h2⟩⟩
 ·rintro ⟨s,rfl,h | ⟨h1,h2 | h2⟩⟩
  ·exact ⟨s,rfl,.inl h⟩
  ·exact ⟨s,rfl,.inr ⟨h1,h2⟩⟩
  ·omega
theorem BackOk.push {i j t:Nat} {B:List (List Int)} (b:BackOk R i j B) (hj:j < (R.getD i []).length) (he:(R.getD i [])[j]=(t:Int)) (ht:t < B.length):BackOk R i (j+1) (B.set t (B[t]++[(i:Int)])):=by
 refine ⟨by rw [List.length_set];exact b.1,fun u hu x=>?_,fun u hu=>?_⟩
 ·rw [List.length_set] at hu
  have key:=b.2.1 u hu x
  rw [List.take_succ_eq_append_getElem hj,List.getElem_set]
  split
  ·rename_i e;subst e
   simp only [List.mem_append,List.mem_singleton]
   rw [key]
   constructor
   ·rintro (⟨s,rfl,h | ⟨h1,h2⟩⟩ | rfl)
    ·exact ⟨s,rfl,.inl h⟩
    ·exact ⟨s,rfl,.inr ⟨h1,.inl h2⟩⟩
    ·exact ⟨i,rfl,.inr ⟨rfl,.inr he.symm⟩⟩
   ·rintro ⟨s,rfl,h | ⟨h1,h2 | h2⟩⟩
    ·exact .inl ⟨s,rfl,.inl h⟩
    ·exact .inl ⟨s,rfl,.inr ⟨h1,h2⟩⟩
    ·exact .inr (by rw [h1])
  ·rename_i e
   rw [key]
   simp only [List.mem_append,List.mem_singleton]
   constructor
   ·rintro ⟨s,rfl,h | ⟨h1,h2⟩⟩
    ·exact ⟨s,rfl,.inl h⟩
    ·exact ⟨s,rfl,.inr ⟨h1,.inl h2⟩⟩
   ·rintro ⟨s,rfl,h | ⟨h1,h2 | h2⟩⟩
    ·exact ⟨s,rfl,.inl h⟩
    ·exact ⟨s,rfl,.inr ⟨h1,h2⟩⟩
    ·rw [he] at h2;exact absurd (by omega) e
 ·rw [List.length_set] at hu
  rw [List.getElem_set]
  split
  ·rename_i e;subst e
   have:=b.2.2 t ht
   rw [List.length_append,List.length_singleton];omega
  ·have:=b.2.2 u hu;omega
theorem BackOk.zero (R:List (List Int)):BackOk R 0 0 (List.replicate R.length []) :=
 ⟨by simp,fun t ht x=>by simp,fun t ht=>by simp⟩
def WorkOk (E:List Bool) (i:Nat) (W:List Int):Prop:=W.length<=i/\∀ x,x∈W↔∃ s:Nat,x=s/\s < i/\E[s]?=some true
theorem WorkOk.push {i:Nat} {W:List Int} (w:WorkOk E i W) (he:E[i]?=some true):WorkOk E (i+1) (W++[(i:Int)]):=by
 refine ⟨by have:=w.1;simp;omega,fun x=>?_⟩
 simp only [List.mem_append,List.mem_singleton,w.2]
 constructor
 ·rintro (⟨s,rfl,h1,h2⟩ | rfl)
  ·exact ⟨s,rfl,by omega,h2⟩
  ·exact ⟨i,rfl,by omega,he⟩
 ·rintro ⟨s,rfl,h1,h2⟩
  by_cases h:s=i
  ·right;rw [h]
  ·exact .inl ⟨s,rfl,by omega,h2⟩
theorem WorkOk.skip {i:Nat} {W:List Int} (w:WorkOk E i W) (he:E[i]?=some false):WorkOk E (i+1) W:=by
 refine ⟨by have:=w.1;omega,fun x=>?_⟩
 rw [w.2]
 constructor
 ·rintro ⟨s,rfl,h1,h2⟩;exact ⟨s,rfl,by omega,h2⟩
 ·rintro ⟨s,rfl,h1,h2⟩
  refine ⟨s,rfl,?_,h2⟩
  by_cases h:s=i
  ·subst h;rw [he] at h2;cases h2
  ·omega
structure OutOk2 (R:List (List Int)) (E:List Bool) (B:List (List Int)) (W:List Int) (out:List Bool) (cur:Option (Nat×Nat)):Prop where
 len:out.length=R.length
 live:∀ s:Nat,out[s]?=some true->Live R E s
 fin:∀ s:Nat,E[s]?=some true->out[s]?=some true
 work:∀ x∈W,∃ s:Nat,x=s/\out[s]?=some true
 room:W.length+out.count false<=R.length
 closed:∀ t:Nat,out[t]?=some true->(t:Int)∈W\/(∃ c,cur=some c/\c.1=t)\/∀ (s:Nat) (r:List Int),R[s]?=some r->(t:Int)∈r->out[s]?=some true
 part:∀ c,cur=some c->out[c.1]?=some true/\∀ (hc:c.1 < B.length),∀ x∈B[c.1].take c.2,∃ s:Nat,x=s/\out[s]?=some true
theorem OutOk2.done {B:List (List Int)} {out:List Bool} (o:OutOk2 R E B [] out none):∀ (s:Nat) (hs:s < out.length),out[s]=true↔Live R E s:=by
 have back:∀ s:Nat,Live R E s->out[s]?=some true:=by
  intro s l
  induction l with
  | fin h=>exact o.fin _ h
  | step h1 h2 _ ih =>
   rcases o.closed _ ih with h | ⟨c,h,_⟩ | h
   ·cases h
   ·cases h
   ·exact h _ _ h1 h2
 intro s hs
 constructor
 ·intro e;exact o.live s (by rw [List.getElem?_eq_getElem hs,e])
 ·intro l
  have:=back s l
  rw [List.getElem?_eq_getElem hs] at this
  exact Option.some.inj this
theorem OutOk2.begin {B:List (List Int)} {W:List Int} (hE:E.length=R.length) (w:WorkOk E E.length W) (hw:W.length+E.count false<=R.length):OutOk2 R E B W E none:=by
 refine ⟨hE,fun s h=>.fin h,fun s h=>h,fun x hx=>?_,hw,fun t h=>.inl ?_,fun c hc=>by cases hc⟩
 ·obtain ⟨s,h1,_,h2⟩:=(w.2 x).1 hx;exact ⟨s,h1,h2⟩
 ·exact (w.2 _).2 ⟨t,rfl,(List.getElem?_eq_some_iff.1 h).1,h⟩
theorem OutOk2.pop {B:List (List Int)} {W:List Int} {s:Nat} {out:List Bool} (o:OutOk2 R E B (W++[(s:Int)]) out none):OutOk2 R E B W out (some (s,0)):=by
 refine ⟨o.len,o.live,o.fin,fun x hx=>o.work x (by simp [hx]),by have:=o.room;simp at this;omega,fun t h=>?_,fun c hc=>?_⟩
 ·rcases o.closed t h with h1 | ⟨c,h1,_⟩ | h1
  ·rcases List.mem_append.1 h1 with h2 | h2
   ·exact .inl h2
   ·simp at h2;exact .inr (.inl ⟨_,rfl,by simp;omega⟩)
  ·cases h1
  ·exact .inr (.inr h1)
 ·cases hc
  obtain ⟨s',h1,h2⟩:=o.work s (by simp)
  have:s=s':=by omega
  subst this
  exact ⟨h2,fun _ x hx=>by simp at hx⟩
theorem OutOk2.stay {B:List (List Int)} {W:List Int} {s j u:Nat} {out:List Bool} (o:OutOk2 R E B W out (some (s,j))) (hs:s < B.length) (hj:j < B[s].length) (e:B[s][j]=(u:Int)) (hu:out[u]?=some true):OutOk2 R E B W out (some (s,j+1)):=by
 obtain ⟨p1,p2⟩:=o.part _ rfl
 refine ⟨o.len,o.live,o.fin,o.work,o.room,fun t h=>?_,fun c hc=>?_⟩
 ·rcases o.closed t h with h1 | ⟨c,h1,h2⟩ | h1
  ·exact .inl h1
  ·cases h1;exact .inr (.inl ⟨_,rfl,h2⟩)
  ·exact .inr (.inr h1)
 ·cases hc
  refine ⟨p1,fun hc x hx=>?_⟩
  rw [List.take_succ_eq_append_getElem hj] at hx
  rcases List.mem_append.1 hx with hx | hx
  ·exact p2 hc x hx
  ·simp at hx;exact ⟨u,by rw [hx,e],hu⟩
theorem OutOk2.mark {B:List (List Int)} {W:List Int} {s j u:Nat} {out:List Bool} (o:OutOk2 R E B W out (some (s,j))) (b:BackOk R R.length 0 B) (hs:s < B.length) (hj:j < B[s].length) (e:B[s][j]=(u:Int)) (hu:out[u]?=some false) :
  OutOk2 R E B (W++[(u:Int)]) (out.set u true) (some (s,j+1)):=by
 obtain ⟨p1,p2⟩:=o.part _ rfl
 have hul:u < out.length:=(List.getElem?_eq_some_iff.1 hu).1
 have get:∀ v:Nat,(out.set u true)[v]?=some true↔v=u\/out[v]?=some true:=by
  intro v
  rw [List.getElem?_set]
  by_cases h:u=v
  ·subst h;simp [hul]
  ·simp [h,Ne.symm h]
 have hedge:∃ r,R[u]?=some r/\(s:Int)∈r:=by
  obtain ⟨u',e1,h | ⟨_,h⟩⟩:=(b.2.1 s hs B[s][j]).1 (List.getElem_mem hj)
  ·have:u'=u:=by omega
   subst this
   rw [List.getD_eq_getElem?_getD,List.getElem?_eq_getElem h.1] at h
   exact ⟨_,List.getElem?_eq_getElem h.1,h.2⟩
  ·rw [List.take_zero] at h;cases h
 refine ⟨by rw [List.length_set];exact o.len,fun v hv=>?_,fun v hv=>(get v).2 (.inr (o.fin v hv)),fun x hx=>?_,?_,fun t ht=>?_,fun c hc=>?_⟩
 ·rcases (get v).1 hv with rfl | hv
  ·obtain ⟨r,h1,h2⟩:=hedge
   exact .step h1 h2 (o.live s p1)
  ·exact o.live v hv
 ·rcases List.mem_append.1 hx with hx | hx
  ·obtain ⟨v,h1,h2⟩:=o.work x hx;exact ⟨v,h1,(get v).2 (.inr h2)⟩
  ·simp at hx;exact ⟨u,hx,(get u).2 (.inl rfl)⟩
 ·have hc:(out.set u true).count false+1=out.count false:=by
   rw [List.count_set hul]
   have hpos:0 < out.count false:=List.count_pos_iff.2 (List.mem_of_getElem? hu)
   rw [List.getElem?_eq_getElem hul] at hu
   simp [Option.some.inj hu]
   omega
  have:=o.room
  rw [List.length_append,List.length_singleton]
  omega
 ·rcases (get t).1 ht with rfl | ht
  ·exact .inl (by simp)
  ·rcases o.closed t ht with h1 | ⟨c,h1,h2⟩ | h1
   ·exact .inl (by simp [h1])
   ·cases h1;exact .inr (.inl ⟨_,rfl,h2⟩)
   ·exact .inr (.inr fun v r h2 h3=>(get v).2 (.inr (h1 v r h2 h3)))
 ·cases hc
  refine ⟨(get s).2 (.inr p1),fun hc x hx=>?_⟩
  rw [List.take_succ_eq_append_getElem hj] at hx
  rcases List.mem_append.1 hx with hx | hx
  ·obtain ⟨v,h1,h2⟩:=p2 hc x hx;exact ⟨v,h1,(get v).2 (.inr h2)⟩
  ·simp at hx;exact ⟨u,by rw [hx,e],(get u).2 (.inl rfl)⟩
theorem OutOk2.over {B:List (List Int)} {W:List Int} {s:Nat} {out:List Bool} {hs':s < B.length} (o:OutOk2 R E B W out (some (s,B[s].length))) (b:BackOk R R.length 0 B) (hs:s < B.length):OutOk2 R E B W out none:=by
 obtain ⟨p1,p2⟩:=o.part _ rfl
 refine ⟨o.len,o.live,o.fin,o.work,o.room,fun t ht=>?_,fun c hc=>by cases hc⟩
 rcases o.closed t ht with h1 | ⟨c,h1,h2⟩ | h1
 ·exact .inl h1
 ·cases h1
  simp only at h2
  subst h2
  refine .inr (.inr fun v r h2 h3=>?_)
  have:(v:Int)∈B[s]:=(b.2.1 s hs v).2 ⟨v,rfl,.inl ⟨(List.getElem?_eq_some_iff.1 h2).1,by rw [List.getD_eq_getElem?_getD,h2];exact h3⟩⟩
  have hm:=p2 hs v (by rw [List.take_length];exact this)
  obtain ⟨v',h4,h5⟩:=hm
  have:v=v':=by omega
  subst this;exact h5
 ·exact .inr (.inr h1)
end Go.Ab.Z
namespace Go.Ab.Z
open Go Go.Ab
variable {h h':AHeap} {k:Post} {fe le en mo to:AVal} {A:PAlpha} {X Y:PAuto} {R:List (List Int)} {E:List Bool}
theorem orow_last {v:AVal} {n:Nat} {cs:List AVal} {c:AVal} (o:ORow h 1 v (n+1) (cs++[c])):∃ v',sliceA (.row 1) v none (some (.int .i64 (n:Int))) none h=some v'/\ORow h 1 v' n cs/\blkOf v'=blkOf v/\h.read1 (rowB v) n=some c:=by
 obtain ⟨hl,⟨_,e⟩ | ⟨b,cap,rest,rfl,hc,r⟩⟩:=o
 ·omega
 ·simp at hl
  refine ⟨.slice b 0 n cap 1,?_,⟨by omega,.inr ⟨b,cap,c :: rest,rfl,by omega,by simpa using r⟩⟩,rfl,r.rd1 (by simp [hl])⟩
  rw [sliceA_row,cut_hi (by omega)]
structure MemA (h₀ h:AHeap) (n:Nat) (bv wv ov:AVal) (B:List (List Int)) (vs:List AVal) (W:List Int) (out:List Bool):Prop where
 wf:WF h
 hle:Hle h₀ h
 nest:NestR h bv B vs
 work:ORow h 1 wv W.length (W.map vI)
 out:ORow h 1 ov n (out.map .bool)
 nn:∀ j,OwnN bv vs j->h₀.next<=j
 nw:∀ j∈blkOf wv,h₀.next<=j/\¬ OwnN bv vs j/\j∉blkOf ov
 no:∀ j∈blkOf ov,h₀.next<=j/\¬ OwnN bv vs j
theorem MemA.pushB {h₀:AHeap} {n:Nat} {bv wv ov:AVal} {B:List (List Int)} {vs:List AVal} {W:List Int} {out:List Bool} (M:MemA h₀ h n bv wv ov B vs W out) (w₀:WF h₀) {t:Nat} (ht:t < B.length) (s:Int) (hn:B[t].length < 1048576) :
  ∃ v h2 h3 vs',indexAddrS 1 bv (.int .i64 (t:Int))=some (.ptr (rowB bv) t)/\h.read1 (rowB bv) t=some v/\appendA (h.newCells [vI s]) 1 v (.slice h.next 0 1 1 1)=some (some (.slice (h.next+1) 0 (B[t].length+1) (B[t].length+1) 1),h2) /\
   h2.write (rowB bv) t [.slice (h.next+1) 0 (B[t].length+1) (B[t].length+1) 1]=some h3/\MemA h₀ h3 n bv wv ov (B.set t (B[t]++[s])) vs' W out/\Hle h₀ h2/\sameV v v=true/\rowB bv < h.next:=by
 obtain ⟨v,h2,h3,ev,o,a1,b1,w3,nx3,N,kp,own,nx2,kp2⟩:=M.nest.push M.wf ht s hn
 obtain ⟨v',ev',i1,r1,_⟩:=M.nest.get ht
 rw [ev] at ev';cases ev'
 have hge:=M.hle.next
 refine ⟨v,h2,h3,_,i1,r1,a1,b1,⟨w3,⟨by omega,fun j x e=>kp j (fun hj=>?_) x (M.hle.get j x e)⟩,N,own_kp M.work fun j hj=>kp j (M.nw j hj).2.1,own_kp M.out fun j hj=>kp j (M.no j hj).2,fun j hj=>?_,fun j hj=>⟨(M.nw j hj).1,fun hj'=>?_,(M.nw j hj).2.2⟩,fun j hj=>⟨(M.no j hj).1,fun hj'=>?_⟩⟩,⟨by omega,fun j x e=>kp2 j (fun hj=>?_) x (M.hle.get j x e)⟩,same_orow o,?_⟩
 ·have:=M.nn j hj;have:=w₀.lt e;omega
 ·rcases own j hj with hj | rfl
  ·exact M.nn j hj
  ·omega
 ·rcases own j hj' with hj' | rfl
  ·exact (M.nw j hj).2.1 hj'
  ·have:=own_lt M.work M.wf _ hj;omega
 ·rcases own j hj' with hj' | rfl
  ·exact (M.no j hj).2 hj'
  ·have:=own_lt M.out M.wf _ hj;omega
 ·have:=M.nn j hj;have:=w₀.lt e;omega
 ·obtain ⟨_,⟨_,e⟩ | ⟨b,cap,rest,e,_,r⟩⟩:=M.nest.out
  ·omega
  ·rw [e];exact r.lt M.wf
theorem MemA.pushW {h₀:AHeap} {n:Nat} {bv wv ov:AVal} {B:List (List Int)} {vs:List AVal} {W:List Int} {out:List Bool} (M:MemA h₀ h n bv wv ov B vs W out) (w₀:WF h₀) (s:Int) (hn:W.length < 1048576) :
  ∃ h2,appendA (h.newCells [vI s]) 1 wv (.slice h.next 0 1 1 1)=some (some (.slice (h.next+1) 0 (W.length+1) (W.length+1) 1),h2)/\MemA h₀ h2 n bv (.slice (h.next+1) 0 (W.length+1) (W.length+1) 1) ov B vs (W++[s]) out:=by
 have le1:=Hle.newCells M.wf [vI s]
 have w1:=M.wf.newCells [vI s]
 have m1:more (h.newCells [vI s]) 1 (.slice h.next 0 1 1 1)=some (1,[vI s]):=(ORow.fresh h (sz:=1) (n:=1) (cs:=[vI s]) rfl).more
 obtain ⟨h2,a1,a2,a3,a4⟩:=(M.work.mono le1).append w1 m1 rfl (by omega) (by omega) rfl
 simp only [next_newCells] at a1 a2
 have kp:∀ j,j∉blkOf wv->Kp h h2 j:=fun j hj=>Kp.trans (Hle.kp le1 j) (grown_kp a4 w1 (orow_kinds M.work) hj)
 have hge:=M.hle.next
 have nx:=a4.next
 simp only [next_newCells] at nx
 refine ⟨h2,a1,a3,⟨by omega,fun j x e=>kp j (fun hj=>?_) x (M.hle.get j x e)⟩,M.nest.kp fun j hj=>kp j fun hj'=>(M.nw j hj').2.1 hj,?_,own_kp M.out fun j hj=>kp j fun hj'=>(M.nw j hj').2.2 hj,M.nn,fun j hj=>?_,M.no⟩
 ·have:=(M.nw j hj).1;have:=w₀.lt e;omega
 ·rw [List.length_append,List.length_singleton,List.map_append];exact a2
 ·simp [blkOf] at hj
  subst hj
  exact ⟨by omega,fun hj=>by have:=M.nest.lt M.wf _ hj;omega,fun hj=>by have:=own_lt M.out M.wf _ hj;omega⟩
theorem MemA.mark {h₀:AHeap} {n:Nat} {bv wv ov:AVal} {B:List (List Int)} {vs:List AVal} {W:List Int} {out:List Bool} (M:MemA h₀ h n bv wv ov B vs W out) (w₀:WF h₀) {u:Nat} (hu:u < n) :
  ∃ h2,h.write (rowB ov) u [.bool true]=some h2/\MemA h₀ h2 n bv wv ov B vs W (out.set u true):=by
 obtain ⟨h2,a1,a2,a3⟩:=M.out.write1 (i:=u) (c:=.bool true) hu rfl
 have hne:ov≠.nils:=by
  intro e
  obtain ⟨_,⟨_,e2⟩ | ⟨b,cap,rest,e2,_⟩⟩:=M.out
  ·omega
  ·rw [e] at e2;cases e2
 have eb:=blkOf_rowB (orow_kinds M.out) hne
 have hb:=M.no (rowB ov) (by rw [eb];simp)
 have hlt:=own_lt M.out M.wf (rowB ov) (by rw [eb];simp)
 refine ⟨h2,a1,a3.wf M.wf hlt,a3.hle M.hle w₀ hb.1,M.nest.kp fun j hj=>But.kp a3 fun e=>hb.2 (e ▸ hj),own_kp M.work fun j hj=>But.kp a3 fun e=>(M.nw j hj).2.2 (by rw [e,eb];simp),?_,M.nn,M.nw,M.no⟩
 rw [List.map_set]
 exact a2
theorem read1_hle {b i:Nat} {c:AVal} (l:Hle h h') (e:h.read1 b i=some c):h'.read1 b i=some c:=by
 unfold AHeap.read1 at e ⊢
 cases hb:h.get b with
 | none=>rw [hb] at e;cases e
 | some x=>rw [hb] at e;rw [l.get _ _ hb];exact e
theorem MachR.rlen {m L:Nat} {tv ev:AVal} {rb:List Nat} (M:MachR h m fe le L R E tv ev rb) {i:Nat} (hi:i < R.length):R[i].length=L:=by
 have hb:i < rb.length:=by rw [M.nr];exact hi
 exact (M.rows i rb[i] R[i] (by simp [hb]) (by simp [hi])).2
theorem count_take_succ {l:List Bool} {i:Nat} (hi:i < l.length):(l.take (i+1)).count false=(l.take i).count false+if l[i]=false then 1 else 0:=by
 rw [List.take_succ_eq_append_getElem hi,List.count_append]
 congr 1
 cases h:l[i]<;>simp
theorem f157 {m L:Nat} {own:List Nat} (M:Mach h m fe le L R E own) (hne:R≠[]) (hb:∀ r∈R,∀ t∈r,t < (R.length:Int)) (hn:R.length<=4097) (hL:L<=128)
  (H:∀ h' b (out:List Bool),WF h'->Hle h h'->h.next<=b->out.length=R.length->(∀ (s:Nat) (hs:s < out.length),out[s]=true↔Live R E s)->ORow h' 1 (.slice b 0 R.length R.length 1) R.length (out.map .bool)->k (.slice b 0 R.length R.length 1) h') :
  Cf 157 [.ptr m 0] h k:=by
 refine use_code compiled157 fun hw=>?_
 obtain ⟨tv,ev,rb,rfl,M⟩:=M
 have hm:=M.box.lt hw
 have r2:=M.box.rd1 (i:=2) (c:=tv) rfl
 have tl:=M.to.len
 have hpos:0 < R.length:=by cases R with | nil=>exact absurd rfl hne | cons _ _=>simp
 have hw1:=hw.newCells (List.replicate R.length .nils)
 have le1:=Hle.newCells hw (List.replicate R.length .nils)
 have r3:=(M.box.mono le1).rd1 (i:=3) (c:=ev) rfl
 simp [fn157,r2,tl,repeatL_one]
 rw [decide_eq_true (by omega:R.length<=16777216)]
 simp [show m≠h.next by omega]
 have r3':=M.box.rd1 (i:=3) (c:=ev) rfl
 simp [r3']
 have hE:E.length=R.length:=M.ne
 have rE:=(M.en.row1).mono le1
 refine f185 (bs:=E) rE (by intro e;subst e;simp at hE;omega) (by omega) fun h2 ob w2 le2 hob oE=>?_
 have le12:=le1.trans le2
 have q2:=(M.box.mono le12).rd1 (i:=2) (c:=tv) rfl
 simp [q2,tl]
 simp only [next_newCells] at hob
 rw [hE] at oE
 rw [hE]
 have N0:=NestR.new h R.length
 have M0:MemA h h2 R.length (.slice h.next 0 R.length R.length 1) .nils (.slice ob 0 R.length R.length 1) (List.replicate R.length []) (List.replicate R.length .nils) [] E:=by
  have own0:∀ j,OwnN (.slice h.next 0 R.length R.length 1) (List.replicate R.length .nils) j->j=h.next:=by
   rintro j (hj | ⟨t,v,h1,hj⟩)
   ·simpa [blkOf] using hj
   ·rw [List.getElem?_replicate] at h1
    split at h1
    ·cases h1;cases hj
    ·cases h1
  refine ⟨w2,le12,N0.mono le2,ORow.nil _ _,oE,fun j hj=>(by rw [own0 j hj];exact Nat.le_refl _),fun j hj=>(by cases hj),fun j hj=>?_⟩
  simp [blkOf] at hj
  subst hj
  exact ⟨by omega,fun hj=>by have:=own0 _ hj;omega⟩
 generalize (AVal.slice h.next 0 R.length R.length 1)=bv at *
 generalize hov:(AVal.slice ob 0 R.length R.length 1)=ov at *
 rw [L157_1]
 refine loop_by (σ:=Nat×AVal) (fun s h'=>s.1<=R.length/\∃ B vs W,MemA h h' R.length bv s.2 ov B vs W E/\BackOk R s.1 0 B/\WorkOk E s.1 W/\W.length+(E.take s.1).count false=s.1)
  (fun s=>[(0,.ptr m 0),(3,bv),(4,s.2),(5,ov),(27,tv),(28,.int .i64 R.length),(29,.int .i64 s.1)]) (fun s=>R.length - s.1) (0,.nils) (by simp) ?_ ?_
 ·exact ⟨Nat.zero_le _,_,_,[],M0,BackOk.zero R,⟨Nat.le_refl _,fun x=>by simp⟩,by simp⟩
 rintro ⟨i,wv⟩ h3 K ⟨hi,B,vs,W,MM,bo,wo,wc⟩ hK
 simp only at hi MM bo wo wc hK
 simp
 refine ap_split (fun hc=>?_) (fun hc=>?_)
 ·have hc:i < R.length:=by omega
  obtain ⟨x,a1,a2,a3⟩:=M.rowsI.get hc
  have hrl:R[i].length=L:=M.rlen hc
  have xl:=a3.len
  simp only [List.length_map] at xl
  have gd:R.getD i []=R[i]:=by simp [hc]
  simp [a1,read1_hle MM.hle a2,xl]
  rw [L157_2]
  refine loop_by (σ:=Nat) (fun j h'=>j<=R[i].length/\∃ B vs,MemA h h' R.length bv wv ov B vs W E/\BackOk R i j B)
   (fun j=>[(0,.ptr m 0),(3,bv),(4,wv),(5,ov),(6,.int .i64 i),(27,tv),(28,.int .i64 R.length),(29,.int .i64 i),(34,x),(35,.int .i64 R[i].length),(36,.int .i64 j)]) (fun j=>R[i].length - j) 0 (by simp) ?_ ?_
  ·exact ⟨Nat.zero_le _,_,_,MM,bo⟩
  clear MM bo B vs
  rintro j h4 K2 ⟨hj,B,vs,MM,bo⟩ hK2
  simp
  refine ap_split (fun hd=>?_) (fun hd=>?_)
  ·have hd:j < R[i].length:=by omega
   have b1:=a3.idx (i:=j) (by simpa using hd) .i64
   have b3:=(a3.mono MM.hle).rd (i:=j) (c:=vI R[i][j]) (by simp [hd])
   simp [b1,b3,vI]
   refine ap_split (fun hq=>?_) (fun hq=>?_)
   ·simp
    rw [wrap64 (by omega) (by omega)]
    refine hK2 (j+1) _ _ (by omega) (by simp) ⟨by omega,B,vs,MM,bo.skip (by rw [gd];exact hd) (by simp only [gd];exact hq)⟩
   ·obtain ⟨u,hu⟩:=Int.eq_ofNat_of_zero_le (by omega:0<=R[i][j])
    have hul:u < B.length:=by rw [bo.1];have:=hb R[i] (List.getElem_mem hc) R[i][j] (List.getElem_mem hd);omega
    have hbl:=bo.2.2 u hul
    obtain ⟨v,g2,g3,vs',i1,i2,i3,i4,MM',_⟩:=MM.pushB hw hul (i:Int) (by omega)
    rw [hu]
    have i3':appendA (h4.newCells [.int .i64 i]) 1 v (.slice h4.next 0 1 1 1)=some (some (.slice (h4.next+1) 0 (B[u].length+1) (B[u].length+1) 1),g2):=i3
    simp [i1,i2,listPut,i3',i4]
    rw [wrap64 (by omega) (by omega)]
    refine hK2 (j+1) _ _ (by omega) (by simp) ⟨by omega,_,vs',MM',bo.push (by rw [gd];exact hd) (by simp only [gd];exact hu) hul⟩
  ·have:j=R[i].length:=by omega
   subst this
   have r3'':=(M.box.mono MM.hle).rd1 (i:=3) (c:=ev) rfl
   have hiE:i < E.length:=by omega
   have e1:=M.en.row1.idx (i:=i) (by simpa using hiE) .i64
   have e2:=((M.en.row1).mono MM.hle).rd (i:=i) (c:=.bool E[i]) (by simp [hiE])
   simp [r3'',e1,e2]
   have bo':BackOk R (i+1) 0 B:=by
    rw [<-gd] at bo
    exact bo.next (by rw [gd];omega)
   refine ap_cases (fun hq=>?_) (fun hq=>?_)
   ·obtain ⟨g2,i3,MM'⟩:=MM.pushW hw (i:Int) (by have:=wo.1;omega)
    have i3':appendA (h4.newCells [.int .i64 i]) 1 wv (.slice h4.next 0 1 1 1)=some (some (.slice (h4.next+1) 0 (W.length+1) (W.length+1) 1),g2):=i3
    simp [listPut,i3']
    rw [wrap64 (by omega) (by omega)]
    refine hK (i+1,_) _ _ (by simp;omega) (by simp) ⟨by simp;omega,_,_,_,MM',bo',wo.push (by simp [hiE,hq]),?_⟩
    rw [count_take_succ hiE,List.length_append,List.length_singleton,hq]
    simp;omega
   ·simp
    rw [wrap64 (by omega) (by omega)]
    refine hK (i+1,wv) _ _ (by simp;omega) (by simp) ⟨by simp;omega,_,_,_,MM,bo',wo.skip (by simp [hiE,hq]),?_⟩
    rw [count_take_succ hiE,hq]
    simp;omega
 ·have:i=R.length:=by omega
  subst this
  simp
  clear hK K
  rw [<-hE,List.take_length] at wc
  have oo0:OutOk2 R E B W E none:=OutOk2.begin hE (by rw [hE];exact wo) (by omega)
  rw [L157_3]
  refine loop_by (σ:=AVal×Nat) (fun s h'=>∃ vs W out,s.2=2*out.count false+W.length/\MemA h h' R.length bv s.1 ov B vs W out/\OutOk2 R E B W out none)
   (fun s=>[(3,bv),(4,s.1),(5,ov)]) (fun s=>s.2) (wv,2*E.count false+W.length) (by simp) ?_ ?_
  ·exact ⟨vs,W,E,rfl,MM,oo0⟩
  clear oo0 MM wo wc W vs
  rintro ⟨wv,mu⟩ h4 K ⟨vs,W,out,hmu,MM,oo⟩ hK
  simp only at hmu MM hK
  have wl:=MM.work.len
  simp [wl]
  refine ap_split (fun hc=>?_) (fun hc=>?_)
  ·have hWne:W≠[]:=by rintro rfl;simp at hc
   obtain ⟨W',c,rfl⟩:∃ W' c,W=W'++[c]:=⟨W.dropLast,W.getLast hWne,(List.dropLast_concat_getLast hWne).symm⟩
   obtain ⟨s,rfl,hs⟩:=oo.work c (by simp)
   have hsl:s < B.length:=by rw [bo.1,<-oo.len];exact (List.getElem?_eq_some_iff.1 hs).1
   have ow:=MM.work
   rw [List.length_append,List.length_singleton,List.map_append] at ow
   obtain ⟨wv',c1,c2,c3,c4⟩:=orow_last (c:=vI s) ow
   have wi:=MM.work.idx (i:=W'.length) (by simp) .i64
   rw [Nat.mul_one] at wi
   have w1:wrapF .i64 (W'.length:Int)=W'.length:=by rw [wrap64 (by omega) (by have:=oo.room;simp at this;omega)]
   have MM1:MemA h h4 R.length bv wv' ov B vs W' out:=⟨MM.wf,MM.hle,MM.nest,c2,MM.out,MM.nn,by rw [c3];exact MM.nw,MM.no⟩
   obtain ⟨v,v1,v2,v3,v4⟩:=MM.nest.get hsl
   have vl:=v4.len
   have oo1:=oo.pop
   have hroom:=oo.room
   simp at hroom hmu
   simp [wl,w1,wi,c4,c1,vI,v2,v3,vl]
   rw [L157_4]
   refine loop_by (σ:=Nat×AVal) (fun st h'=>st.1<=B[s].length/\∃ W out,2*out.count false+W.length < mu/\MemA h h' R.length bv st.2 ov B vs W out/\OutOk2 R E B W out (some (s,st.1)))
    (fun st=>[(3,bv),(4,st.2),(5,ov),(82,v),(83,.int .i64 B[s].length),(84,.int .i64 st.1)]) (fun st=>B[s].length - st.1) (0,wv') (by simp) ?_ ?_
   ·exact ⟨Nat.zero_le _,W',out,by omega,MM1,oo1⟩
   clear MM1 MM oo oo1 hroom hmu wl w1 ow c1 c2 c3 c4 wi hWne hs
   rintro ⟨j,wv⟩ h5 K2 ⟨hj,W,out,hlt,MM,oo⟩ hK2
   simp only at hj MM oo hK2
   simp
   refine ap_split (fun hd=>?_) (fun hd=>?_)
   ·have hd:j < B[s].length:=by omega
    have vo:=MM.nest.rows s v B[s] v1 (by simp [hsl])
    have x1:=vo.idx (i:=j) hd .i64
    rw [Nat.mul_one] at x1
    have x2:=vo.row1.rd (i:=j) (c:=vI B[s][j]) (by simp [hd])
    obtain ⟨u,hu,hul⟩:∃ u:Nat,B[s][j]=u/\u < R.length:=by
     obtain ⟨u,e1,h | ⟨_,h⟩⟩:=(bo.2.1 s hsl B[s][j]).1 (List.getElem_mem hd)
     ·exact ⟨u,e1,h.1⟩
     ·rw [List.take_zero] at h;cases h
    have hul':u < out.length:=by rw [oo.len];exact hul
    have y1:=MM.out.idx (i:=u) hul .i64
    rw [Nat.mul_one] at y1
    obtain ⟨rest,orr⟩:=MM.out.blk hpos
    have y2:=orr.rd1 (i:=u) (c:=.bool out[u]) (by rw [List.getElem?_append_left (by simpa using hul')];simp [hul'])
    have x2':h5.read1 (rowB v) j=some (.int .i64 u):=by
     obtain ⟨rest',vr⟩:=vo.blk (by omega)
     exact vr.rd1 (by rw [List.getElem?_append_left (by simpa using hd)];simp [hd,hu,vI])
    simp [x1,x2',y1,y2]
    have wr:wrapF .i64 ((j:Int)+1)=(j:Int)+1:=wrap64 (by omega) (by have:=bo.2.2 s hsl;omega)
    refine ap_cases (fun hq=>?_) (fun hq=>?_)
    ·simp [wr]
     exact hK2 (j+1,wv) _ _ (by simp;omega) (by simp) ⟨by simp;omega,W,out,hlt,MM,oo.stay hsl hd hu (by simp [hul',hq])⟩
    ·have hou:out[u]?=some false:=by simp [hul',hq]
     obtain ⟨g1,z1,MM1⟩:=MM.mark hw hul
     have hroom:=oo.room
     obtain ⟨g2,z2,MM2⟩:=MM1.pushW hw (u:Int) (by omega)
     have z2':appendA (g1.newCells [.int .i64 u]) 1 wv (.slice g1.next 0 1 1 1)=some (some (.slice (g1.next+1) 0 (W.length+1) (W.length+1) 1),g2):=z2
     simp [y1,z1,listPut,z2',wr]
     have oo':=oo.mark bo hsl hd hu hou
     have hc':(out.set u true).count false+1=out.count false:=by
      rw [List.count_set hul']
      have hp:0 < out.count false:=List.count_pos_iff.2 (List.mem_of_getElem? hou)
      simp [hq];omega
     refine hK2 (j+1,_) _ _ (by simp;omega) (by simp) ⟨by simp;omega,_,_,?_,MM2,oo'⟩
     rw [List.length_append,List.length_singleton];omega
   ·have:j=B[s].length:=by omega
    subst this
    simp
    exact hK (wv,2*out.count false+W.length) _ _ hlt (by simp) ⟨vs,W,out,rfl,MM,oo.over (hs':=hsl) bo hsl⟩
  ·have hW:W=[]:=by cases W with | nil=>rfl | cons _ _=>simp at hc
   subst hW
   simp
   intro w
   subst hov
   exact H h4 ob out w MM.hle (by omega) oo.len oo.done MM.out
end Go.Ab.Z
namespace Go.Ab.Z
open Go Go.Ab
variable {h h':AHeap} {k:Post} {fe le en mo to:AVal} {A:PAlpha} {X Y:PAuto} {R:List (List Int)} {E:List Bool}
theorem OutOk2.popF {B:List (List Int)} {W:List Int} {s:Nat} {out:List Bool} (o:OutOk2 R E B ((s:Int) :: W) out none):OutOk2 R E B W out (some (s,0)):=by
 refine ⟨o.len,o.live,o.fin,fun x hx=>o.work x (by simp [hx]),by have:=o.room;simp at this;omega,fun t h=>?_,fun c hc=>?_⟩
 ·rcases o.closed t h with h1 | ⟨c,h1,_⟩ | h1
  ·rcases List.mem_cons.1 h1 with h2 | h2
   ·exact .inr (.inl ⟨_,rfl,by simp;omega⟩)
   ·exact .inl h2
  ·cases h1
  ·exact .inr (.inr h1)
 ·cases hc
  obtain ⟨s',h1,h2⟩:=o.work s (by simp)
  have:s=s':=by omega
  subst this
  exact ⟨h2,fun _ x hx=>by simp at hx⟩
@[simp] theorem sameV_int (k:IntKind) (n:Int):sameV (.int k n) (.int k n)=true:=by simp [sameV,same1]
@[simp] theorem sameV_ptr (b o:Nat):sameV (.ptr b o) (.ptr b o)=true:=by simp [sameV,same1]
def outI (E:List Bool) (i:Nat):List Bool:=E.take i++List.replicate (E.length - i) false
theorem outI_zero:outI E 0=List.replicate E.length false:=by simp [outI]
theorem outI_all:outI E E.length=E:=by simp [outI]
theorem outI_true {i:Nat} (hi:i < E.length) (he:E[i]=true):(outI E i).set i true=outI E (i+1):=by
 unfold outI
 rw [List.take_succ_eq_append_getElem hi,he,show E.length - i=(E.length - (i+1))+1 by omega,List.replicate_succ,List.set_append_right _ _ (by simp;omega)]
 simp [show min i E.length=i by omega]
theorem outI_false {i:Nat} (hi:i < E.length) (he:E[i]=false):outI E i=outI E (i+1):=by
 unfold outI
 rw [List.take_succ_eq_append_getElem hi,he,show E.length - i=(E.length - (i+1))+1 by omega,List.replicate_succ]
 simp
theorem f160 (hG:IsGraph h to en R E) (hE:E.length=R.length) (hne:R≠[]) (hb:∀ r∈R,∀ t∈r,t < (R.length:Int)) (hr:∀ r∈R,r.length<=128) (hn:R.length<=4200)
  (H:∀ h' b (out:List Bool),WF h'->Hle h h'->h.next<=b->out.length=R.length->(∀ (s:Nat) (hs:s < out.length),out[s]=true↔Live R E s)->ORow h' 1 (.slice b 0 R.length R.length 1) R.length (out.map .bool)->k (.slice b 0 R.length R.length 1) h') :
  Cf 160 [.agg [to,en]] h k:=by
 refine use_code compiled160 fun hw=>?_
 have hpos:0 < R.length:=by cases R with | nil=>exact absurd rfl hne | cons _ _=>simp
 have tl:∀ h',lenA .row to h'=some (.int .i64 (R.length:Int)):=fun h'=>by
  obtain ⟨vs,e,r,_⟩:=hG.to
  have:=r.len h';rw [e] at this;exact this
 have el:∀ h',lenA .row en h'=some (.int .i64 (E.length:Int)):=fun h'=>by have:=hG.en.len h';simpa using this
 have hw0:=hw.newCells [to,en]
 have le0:=Hle.newCells hw [to,en]
 have v0:=Blk.new h [to,en]
 simp [fn160,tl,repeatL_one]
 rw [decide_eq_true (by omega:R.length<=16777216)]
 simp
 have G0:=hG.mono le0
 have sto:sameV to to=true:=by obtain ⟨vs,e,r,_⟩:=hG.to;exact same_row r
 have hge:h.next<=(h.newCells [to,en]).next:=by simp
 have N0:=NestR.new (h.newCells [to,en]) R.length
 have w2:=hw0.newCells (List.replicate R.length .nils)
 have le2:=Hle.newCells hw0 (List.replicate R.length .nils)
 have M0:MemA (h.newCells [to,en]) ((h.newCells [to,en]).newCells (List.replicate R.length .nils)) 0 (.slice (h.next+1) 0 R.length R.length 1) .nils .nils (List.replicate R.length []) (List.replicate R.length .nils) [] []:=by
  have own0:∀ j,OwnN (.slice (h.next+1) 0 R.length R.length 1) (List.replicate R.length .nils) j->j=h.next+1:=by
   rintro j (hj | ⟨t,v,h1,hj⟩)
   ·simpa [blkOf] using hj
   ·rw [List.getElem?_replicate] at h1
    split at h1
    ·cases h1;cases hj
    ·cases h1
  refine ⟨w2,le2,N0,ORow.nil _ _,ORow.nil _ _,fun j hj=>(by rw [own0 j hj];simp),fun j hj=>(by cases hj),fun j hj=>(by cases hj)⟩
 generalize hg0:h.newCells [to,en]=g0 at *
 generalize (AVal.slice (h.next+1) 0 R.length R.length 1)=bv at *
 rw [L160_1]
 refine loop_by (σ:=Nat) (fun i h'=>i<=R.length/\∃ B vs,MemA g0 h' 0 bv .nils .nils B vs [] []/\BackOk R i 0 B)
  (fun i=>[(1,.ptr h.next 0),(3,bv),(4,.int .i64 i)]) (fun i=>R.length - i) 0 (by simp) ?_ ?_
 ·exact ⟨Nat.zero_le _,_,_,M0,BackOk.zero R⟩
 rintro i h3 K ⟨hi,B,vs,MM,bo⟩ hK
 have c0:=(v0.mono MM.hle).rd1 (i:=0) (c:=to) rfl
 simp [c0,tl]
 refine ap_split (fun hc=>?_) (fun hc=>?_)
 ·have hc:i < R.length:=by omega
  obtain ⟨x,a1,a2,a3⟩:=G0.to.get hc
  have hrl:R[i].length<=128:=hr _ (List.getElem_mem hc)
  have xl:=a3.len
  simp only [List.length_map] at xl
  have sx:sameV x x=true:=same_row a3
  have gd:R.getD i []=R[i]:=by simp [hc]
  simp
  rw [L160_2]
  refine loop_by (σ:=Nat) (fun j h'=>j<=R[i].length/\∃ B vs,MemA g0 h' 0 bv .nils .nils B vs [] []/\BackOk R i j B)
   (fun j=>[(1,.ptr h.next 0),(3,bv),(4,.int .i64 i),(5,.int .i64 j)]) (fun j=>R[i].length - j) 0 (by simp) ?_ ?_
  ·exact ⟨Nat.zero_le _,_,_,MM,bo⟩
  clear MM bo B vs c0
  rintro j h4 K2 ⟨hj,B,vs,MM,bo⟩ hK2
  have c0:=(v0.mono MM.hle).rd1 (i:=0) (c:=to) rfl
  have c2:=read1_hle MM.hle a2
  simp [c0,a1,c2,xl]
  refine ap_split (fun hd=>?_) (fun hd=>?_)
  ·have hd:j < R[i].length:=by omega
   have b1:=a3.idx (i:=j) (by simpa using hd) .i64
   have b3:=(a3.mono MM.hle).rd (i:=j) (c:=vI R[i][j]) (by simp [hd])
   simp [c0,a1,c2,b1,b3,vI]
   refine ap_split (fun hq=>?_) (fun hq=>?_)
   ·simp
    rw [wrap64 (by omega) (by omega)]
    refine hK2 (j+1) _ _ (by omega) (by simp) ⟨by omega,B,vs,MM,bo.skip (by rw [gd];exact hd) (by simp only [gd];exact hq)⟩
   ·obtain ⟨u,hu⟩:=Int.eq_ofNat_of_zero_le (by omega:0<=R[i][j])
    have hul:u < B.length:=by rw [bo.1];have:=hb R[i] (List.getElem_mem hc) R[i][j] (List.getElem_mem hd);omega
    have hbl:=bo.2.2 u hul
    obtain ⟨v,g2,g3,vs',i1,i2,i3,i4,MM',le2',sv,hlt⟩:=MM.pushB hw0 hul (i:Int) (by omega)
    have i3':appendA (h4.newCells [.int .i64 i]) 1 v (.slice h4.next 0 1 1 1)=some (some (.slice (h4.next+1) 0 (B[u].length+1) (B[u].length+1) 1),g2):=i3
    rw [hu] at b3
    have lec:=MM.hle.trans (Hle.newCells MM.wf [.int .i64 i])
    have d0:=(v0.mono lec).rd1 (i:=0) (c:=to) rfl
    have d2:=read1_hle lec a2
    have d3:=(a3.mono lec).rd (i:=j) (c:=vI R[i][j]) (by simp [hd])
    have d4:=read1_hle (Hle.newCells MM.wf [.int .i64 i]) i2
    have f0:=(v0.mono le2').rd1 (i:=0) (c:=to) rfl
    have f2:=read1_hle le2' a2
    have f3:=(a3.mono le2').rd (i:=j) (c:=vI R[i][j]) (by simp [hd])
    rw [hu] at d3 f3
    rw [hu]
    simp [c0,a1,c2,b1,b3,vI,i1,i2,listPut,d0,d2,d3,d4,sto,sx,sv]
    rw [i3']
    simp [f0,f2,f3,vI,sto,sx,i1,i4]
    rw [wrap64 (by omega) (by omega)]
    refine hK2 (j+1) _ _ (by omega) (by simp) ⟨by omega,_,vs',MM',bo.push (by rw [gd];exact hd) (by simp only [gd];exact hu) hul⟩
  ·have:j=R[i].length:=by omega
   subst this
   have bo':BackOk R (i+1) 0 B:=by
    rw [<-gd] at bo
    exact bo.next (by rw [gd];omega)
   simp
   rw [wrap64 (by omega) (by omega)]
   exact hK (i+1) _ _ (by omega) (by simp) ⟨by omega,_,_,MM,bo'⟩
 ·have:i=R.length:=by omega
  subst this
  simp [c0,tl,repeatL_one]
  rw [decide_eq_true (by omega:R.length<=16777216)]
  simp
  clear hK K
  have hge3:=MM.hle.next
  have M1:MemA g0 (h3.newCells (List.replicate R.length (.bool false))) R.length bv .nils (.slice h3.next 0 R.length R.length 1) B vs [] (outI E 0):=by
   have lea:=Hle.newCells MM.wf (List.replicate R.length (.bool false))
   refine ⟨MM.wf.newCells _,MM.hle.trans lea,MM.nest.mono lea,ORow.nil _ _,?_,MM.nn,fun j hj=>(by cases hj),fun j hj=>?_⟩
   ·rw [outI_zero,List.map_replicate,hE];exact ORow.fresh h3 (by simp)
   ·simp [blkOf] at hj
    subst hj
    exact ⟨by omega,fun hj=>by have:=MM.nest.lt MM.wf _ hj;omega⟩
  have hob:h.next<=h3.next:=by omega
  generalize hov:(AVal.slice h3.next 0 R.length R.length 1)=ov at *
  rw [L160_3]
  refine loop_by (σ:=Nat×AVal) (fun st h'=>st.1<=E.length/\∃ W,MemA g0 h' R.length bv st.2 ov B vs W (outI E st.1)/\WorkOk E st.1 W/\W.length+(E.take st.1).count false=st.1)
   (fun st=>[(1,.ptr h.next 0),(3,bv),(6,ov),(7,st.2),(8,.int .i64 st.1)]) (fun st=>E.length - st.1) (0,.nils) (by simp) ?_ ?_
  ·exact ⟨Nat.zero_le _,[],M1,⟨Nat.le_refl _,fun x=>by simp⟩,by simp⟩
  clear M1 c0
  rintro ⟨i,wv⟩ h4 K ⟨hi,W,MM,wo,wc⟩ hK
  simp only at hi MM wo wc hK
  have c1:=(v0.mono MM.hle).rd1 (i:=1) (c:=en) rfl
  simp [c1,el]
  refine ap_split (fun hc=>?_) (fun hc=>?_)
  ·have hc:i < E.length:=by omega
   have e1:=hG.en.idx (i:=i) (by simpa using hc) .i64
   have e2:=(G0.en.mono MM.hle).rd (i:=i) (c:=.bool E[i]) (by simp [hc])
   simp [c1,e1,e2]
   refine ap_cases (fun hq=>?_) (fun hq=>?_)
   ·have hiR:i < R.length:=by omega
    have y1:=MM.out.idx (i:=i) hiR .i64
    rw [Nat.mul_one] at y1
    obtain ⟨g1,z1,MM1⟩:=MM.mark hw0 hiR
    rw [outI_true hc hq] at MM1
    obtain ⟨g2,z2,MM2⟩:=MM1.pushW hw0 (i:Int) (by have:=wo.1;omega)
    have z2':appendA (g1.newCells [.int .i64 i]) 1 wv (.slice g1.next 0 1 1 1)=some (some (.slice (g1.next+1) 0 (W.length+1) (W.length+1) 1),g2):=z2
    simp [y1,z1,listPut,z2']
    rw [wrap64 (by omega) (by omega)]
    refine hK (i+1,_) _ _ (by simp;omega) (by simp) ⟨by simp;omega,_,MM2,wo.push (by simp [hc,hq]),?_⟩
    rw [count_take_succ hc,List.length_append,List.length_singleton,hq]
    simp;omega
   ·simp
    rw [wrap64 (by omega) (by omega)]
    rw [outI_false hc hq] at MM
    refine hK (i+1,wv) _ _ (by simp;omega) (by simp) ⟨by simp;omega,_,MM,wo.skip (by simp [hc,hq]),?_⟩
    rw [count_take_succ hc,hq]
    simp;omega
  ·have:i=E.length:=by omega
   subst this
   rw [outI_all] at MM
   rw [List.take_length] at wc
   have oo0:OutOk2 R E B W E none:=OutOk2.begin hE wo (by omega)
   simp
   clear hK K c1
   rw [L160_4]
   refine loop_by (σ:=AVal×Nat) (fun st h'=>∃ W out,st.2<=W.length/\W.length+out.count false<=R.length/\MemA g0 h' R.length bv st.1 ov B vs W out/\OutOk2 R E B (W.drop st.2) out none)
    (fun st=>[(3,bv),(6,ov),(7,st.1),(9,.int .i64 st.2)]) (fun st=>R.length - st.2) (wv,0) (by simp) ?_ ?_
   ·exact ⟨W,E,Nat.zero_le _,by omega,MM,by simpa using oo0⟩
   clear oo0 MM wo wc W
   rintro ⟨wv,n⟩ h5 K ⟨W,out,hnW,hroom,MM,oo⟩ hK
   simp only at hnW MM oo hK
   have wl:=MM.work.len
   simp [wl]
   refine ap_split (fun hc=>?_) (fun hc=>?_)
   ·have hc:n < W.length:=by omega
    have ed:W.drop n=W[n] :: W.drop (n+1):=List.drop_eq_getElem_cons hc
    obtain ⟨s,hs0,hs⟩:=oo.work W[n] (by rw [ed];exact List.mem_cons_self)
    have hsl:s < B.length:=by rw [bo.1,<-oo.len];exact (List.getElem?_eq_some_iff.1 hs).1
    rw [ed,hs0] at oo
    have oo1:=oo.popF
    have wi:=MM.work.idx (i:=n) hc .i64
    rw [Nat.mul_one] at wi
    obtain ⟨wrest,wr⟩:=MM.work.blk (by omega)
    have wr1:h5.read1 (rowB wv) n=some (.int .i64 s):=wr.rd1 (by rw [List.getElem?_append_left (by simpa using hc)];simp [hc,hs0,vI])
    obtain ⟨v,v1,v2,v3,v4⟩:=MM.nest.get hsl
    simp [wi,wr1,v2,v3]
    rw [L160_5]
    refine loop_by (σ:=Nat×AVal) (fun st h'=>st.1<=B[s].length/\∃ W out,n+1<=W.length/\W.length+out.count false<=R.length/\MemA g0 h' R.length bv st.2 ov B vs W out/\OutOk2 R E B (W.drop (n+1)) out (some (s,st.1)))
     (fun st=>[(3,bv),(6,ov),(7,st.2),(9,.int .i64 n),(10,v),(11,.int .i64 st.1)]) (fun st=>B[s].length - st.1) (0,wv) (by simp) ?_ ?_
    ·exact ⟨Nat.zero_le _,W,out,by omega,hroom,MM,oo1⟩
    clear MM oo oo1 hroom wl wi wr1 wr wrest hs ed hs0 hnW hc
    rintro ⟨j,wv⟩ h6 K2 ⟨hj,W,out,hnW,hroom,MM,oo⟩ hK2
    simp only at hj MM oo hK2
    have vo:=MM.nest.rows s v B[s] v1 (by simp [hsl])
    have vl:=vo.len
    simp [vl]
    refine ap_split (fun hd=>?_) (fun hd=>?_)
    ·have hd:j < B[s].length:=by omega
     have x1:=vo.idx (i:=j) hd .i64
     rw [Nat.mul_one] at x1
     obtain ⟨u,hu,hul⟩:∃ u:Nat,B[s][j]=u/\u < R.length:=by
      obtain ⟨u,e1,h | ⟨_,h⟩⟩:=(bo.2.1 s hsl B[s][j]).1 (List.getElem_mem hd)
      ·exact ⟨u,e1,h.1⟩
      ·rw [List.take_zero] at h;cases h
     have hul':u < out.length:=by rw [oo.len];exact hul
     have y1:=MM.out.idx (i:=u) hul .i64
     rw [Nat.mul_one] at y1
     obtain ⟨rest,orr⟩:=MM.out.blk hpos
     have y2:=orr.rd1 (i:=u) (c:=.bool out[u]) (by rw [List.getElem?_append_left (by simpa using hul')];simp [hul'])
     have x2':h6.read1 (rowB v) j=some (.int .i64 u):=by
      obtain ⟨rest',vr⟩:=vo.blk (by omega)
      exact vr.rd1 (by rw [List.getElem?_append_left (by simpa using hd)];simp [hd,hu,vI])
     simp [x1,x2',y1,y2]
     have wr:wrapF .i64 ((j:Int)+1)=(j:Int)+1:=wrap64 (by omega) (by have:=bo.2.2 s hsl;omega)
     refine ap_cases (fun hq=>?_) (fun hq=>?_)
     ·simp [wr]
      exact hK2 (j+1,wv) _ _ (by simp;omega) (by simp) ⟨by simp;omega,W,out,hnW,hroom,MM,oo.stay hsl hd hu (by simp [hul',hq])⟩
     ·have hou:out[u]?=some false:=by simp [hul',hq]
      obtain ⟨g1,z1,MM1⟩:=MM.mark hw0 hul
      have vo1:=MM1.nest.rows s v B[s] v1 (by simp [hsl])
      have x3':g1.read1 (rowB v) j=some (.int .i64 u):=by
       obtain ⟨rest',vr⟩:=vo1.blk (by omega)
       exact vr.rd1 (by rw [List.getElem?_append_left (by simpa using hd)];simp [hd,hu,vI])
      obtain ⟨g2,z2,MM2⟩:=MM1.pushW hw0 (u:Int) (by omega)
      have z2':appendA (g1.newCells [.int .i64 u]) 1 wv (.slice g1.next 0 1 1 1)=some (some (.slice (g1.next+1) 0 (W.length+1) (W.length+1) 1),g2):=z2
      simp [x1,x2',y1,z1,x3',listPut,z2',wr]
      have oo':=oo.mark bo hsl hd hu hou
      have hc':(out.set u true).count false+1=out.count false:=by
       rw [List.count_set hul']
       have hp:0 < out.count false:=List.count_pos_iff.2 (List.mem_of_getElem? hou)
       simp [hq];omega
      rw [<-List.drop_append_of_le_length hnW] at oo'
      refine hK2 (j+1,_) _ _ (by simp;omega) (by simp) ⟨by simp;omega,_,_,by simp;omega,?_,MM2,oo'⟩
      rw [List.length_append,List.length_singleton];omega
    ·have:j=B[s].length:=by omega
     subst this
     simp
     rw [wrap64 (by omega) (by omega)]
     refine hK (wv,n+1) _ _ (by simp;omega) (by simp) ⟨W,out,hnW,hroom,MM,oo.over (hs':=hsl) bo hsl⟩
   ·have hn':n=W.length:=by omega
    subst hn'
    rw [List.drop_length] at oo
    simp
    intro w
    subst hov
    exact H h5 h3.next out w (le0.trans MM.hle) hob oo.len oo.done MM.out
end Go.Ab.Z
namespace Go.Ab.Z
open Go Go.Ab
def Acc (R:List (List Int)) (E:List Bool):Nat->List Nat->Prop
 | s,[]=>E[s]?=some true
 | s,k :: w=>∃ t:Nat,(R.getD s [])[k]?=some (t:Int)/\Acc R E t w
variable {R:List (List Int)} {E:List Bool}
theorem live_acc {s:Nat}:Live R E s↔∃ w,Acc R E s w:=by
 constructor
 ·intro h
  induction h with
  | fin h=>exact ⟨[],h⟩
  | @step s t r h1 h2 _ ih =>
   obtain ⟨w,hw⟩:=ih
   obtain ⟨k,hk,e⟩:=List.getElem_of_mem h2
   exact ⟨k :: w,t,by rw [List.getD_eq_getElem?_getD,h1];simp [hk,e],hw⟩
 ·rintro ⟨w,hw⟩
  induction w generalizing s with
  | nil=>exact .fin hw
  | cons k w ih =>
   obtain ⟨t,h1,h2⟩:=hw
   cases hr:R[s]? with
   | none=>rw [List.getD_eq_getElem?_getD,hr] at h1;simp at h1
   | some r =>
    rw [List.getD_eq_getElem?_getD,hr] at h1
    exact .step hr (List.mem_of_getElem? h1) (ih h2)
def MN (R:List (List Int)) (E:List Bool) (s t:Nat):Prop:=∀ w,Acc R E s w↔Acc R E t w
def behind (R:List (List Int)) (c:List Int) (s k:Nat):Int:=match (R.getD s [])[k]? with
 | some t=>if t < 0 then -1 else c.getD t.toNat (-1)
 | none=>-1
def Marks (R:List (List Int)) (E:List Bool) (c:List Int):Prop:=∀ s:Nat,0<=c.getD s (-1)↔Live R E s
theorem behind_some {c:List Int} {s k t:Nat} (h:(R.getD s [])[k]?=some (t:Int)):behind R c s k=c.getD t (-1):=by
 unfold behind;rw [h];simp only;rw [if_neg (by omega)];simp
theorem behind_pos {c:List Int} {s k:Nat} (h:0<=behind R c s k):∃ t:Nat,(R.getD s [])[k]?=some (t:Int)/\behind R c s k=c.getD t (-1):=by
 have h0:=h
 unfold behind at h
 split at h
 ·rename_i t ht
  split at h
  ·omega
  ·obtain ⟨n,rfl⟩:=Int.eq_ofNat_of_zero_le (by omega:0<=t)
   exact ⟨n,ht,behind_some ht⟩
 ·omega
theorem bisim {c:List Int} (m:Marks R E c) (he:∀ s t:Nat,0<=c.getD s (-1)->c.getD s (-1)=c.getD t (-1)->(E[s]?=some true↔E[t]?=some true))
  (hk:∀ s t k:Nat,0<=c.getD s (-1)->c.getD s (-1)=c.getD t (-1)->behind R c s k=behind R c t k\/(behind R c s k < 0/\behind R c t k < 0)):∀ (w:List Nat) (s t:Nat),0<=c.getD s (-1)->c.getD s (-1)=c.getD t (-1)->(Acc R E s w->Acc R E t w):=by
 intro w
 induction w with
 | nil=>intro s t h1 h2 h3;exact (he s t h1 h2).1 h3
 | cons k w ih =>
  rintro s t h1 h2 ⟨s',e1,a1⟩
  have l1:0<=c.getD s' (-1):=(m s').2 (live_acc.2 ⟨w,a1⟩)
  have b1:=behind_some (c:=c) e1
  rcases hk s t k h1 h2 with h3 | h3
  ·obtain ⟨t',e2,b2⟩:=behind_pos (R:=R) (c:=c) (s:=t) (k:=k) (by omega)
   exact ⟨t',e2,ih s' t' l1 (by omega) a1⟩
  ·omega
theorem mn_behind {c:List Int} (m:Marks R E c) (hc:∀ s t:Nat,Live R E s->MN R E s t->c.getD s (-1)=c.getD t (-1)) {s t k:Nat} (h:MN R E s t):behind R c s k=behind R c t k\/(behind R c s k < 0/\behind R c t k < 0):=by
 have half:∀ {s t:Nat},MN R E s t->0<=behind R c s k->behind R c s k=behind R c t k:=by
  intro s t h hp
  obtain ⟨s',e1,b1⟩:=behind_pos hp
  have l1:Live R E s':=(m s').1 (by omega)
  obtain ⟨w,aw⟩:=live_acc.1 l1
  obtain ⟨t',e2,a2⟩:=(h (k :: w)).1 ⟨s',e1,aw⟩
  have b2:=behind_some (c:=c) e2
  have:MN R E s' t':=by
   intro w
   constructor
   ·intro a
    obtain ⟨t2,e3,a3⟩:=(h (k :: w)).1 ⟨s',e1,a⟩
    rw [e2] at e3
    have:t'=t2:=by have:=Option.some.inj e3;omega
    subst this;exact a3
   ·intro a
    obtain ⟨s2,e3,a3⟩:=(h (k :: w)).2 ⟨t',e2,a⟩
    rw [e1] at e3
    have:s'=s2:=by have:=Option.some.inj e3;omega
    subst this;exact a3
  rw [b1,b2];exact hc s' t' l1 this
 by_cases h1:0<=behind R c s k
 ·exact .inl (half h h1)
 ·by_cases h2:0<=behind R c t k
  ·exact .inl (half (fun w=>(h w).symm) h2).symm
  ·exact .inr ⟨by omega,by omega⟩
section
variable {κ:Type} [DecidableEq κ]
def numb:List (Option κ)->List κ->List Int
 | [],_=>[]
 | none :: ks,seen=>-1 :: numb ks seen
 | some c :: ks,seen=>(seen.idxOf c:Int) :: numb ks (if c∈seen then seen else seen++[c])
def numbS:List (Option κ)->List κ->List κ
 | [],seen=>seen
 | none :: ks,seen=>numbS ks seen
 | some c :: ks,seen=>numbS ks (if c∈seen then seen else seen++[c])
theorem numb_length:∀ (ks:List (Option κ)) (seen:List κ),(numb ks seen).length=ks.length
 | [],_=>rfl
 | none :: ks,seen=>by simp [numb,numb_length ks]
 | some c :: ks,seen=>by simp [numb,numb_length ks]
theorem numbS_prefix:∀ (ks:List (Option κ)) (seen:List κ),∃ r,numbS ks seen=seen++r
 | [],seen=>⟨[],by simp [numbS]⟩
 | none :: ks,seen=>numbS_prefix ks seen
 | some c :: ks,seen=>by
  obtain ⟨r,e⟩:=numbS_prefix ks (if c∈seen then seen else seen++[c])
  unfold numbS
  rw [e]
  split
  ·exact ⟨r,rfl⟩
  ·exact ⟨c :: r,by simp⟩
theorem idxOf_prefix {seen r:List κ} {c:κ} (h:c∈seen):(seen++r).idxOf c=seen.idxOf c:=by rw [List.idxOf_append,if_pos h]
theorem numb_get:∀ (ks:List (Option κ)) (seen:List κ) (s:Nat) (c:κ),ks[s]?=some (some c)->(numb ks seen)[s]?=some ((numbS ks seen).idxOf c:Int)/\c∈numbS ks seen
 | [],_,s,c,h=>by simp at h
 | none :: ks,seen,0,c,h=>by simp at h
 | none :: ks,seen,s+1,c,h=>by
  have:=numb_get ks seen s c (by simpa using h)
  simpa [numb,numbS] using this
 | some d :: ks,seen,0,c,h=>by
  simp at h;subst h
  obtain ⟨r,e⟩:=numbS_prefix ks (if d∈seen then seen else seen++[d])
  have e':numbS (some d :: ks) seen=(if d∈seen then seen else seen++[d])++r:=e
  rw [e']
  by_cases hd:d∈seen
  ·rw [if_pos hd]
   refine ⟨?_,by simp [hd]⟩
   rw [idxOf_prefix hd];simp [numb]
  ·rw [if_neg hd]
   refine ⟨?_,by simp⟩
   rw [idxOf_prefix (by simp:d∈seen++[d])]
   rw [List.idxOf_append,if_neg hd]
   simp [numb,List.idxOf_eq_length hd]
 | some d :: ks,seen,s+1,c,h=>by
  have:=numb_get ks (if d∈seen then seen else seen++[d]) s c (by simpa using h)
  simpa [numb,numbS] using this
theorem numb_none:∀ (ks:List (Option κ)) (seen:List κ) (s:Nat),ks[s]?=some none->(numb ks seen)[s]?=some (-1)
 | [],_,s,h=>by simp at h
 | none :: ks,seen,0,h=>by simp [numb]
 | none :: ks,seen,s+1,h=>by have:=numb_none ks seen s (by simpa using h);simpa [numb] using this
 | some d :: ks,seen,0,h=>by simp at h
 | some d :: ks,seen,s+1,h=>by
  have:=numb_none ks (if d∈seen then seen else seen++[d]) s (by simpa using h)
  simpa [numb] using this
theorem numbS_nodup:∀ (ks:List (Option κ)) (seen:List κ),seen.Nodup->(numbS ks seen).Nodup
 | [],seen,h=>h
 | none :: ks,seen,h=>numbS_nodup ks seen h
 | some c :: ks,seen,h=>by
  refine numbS_nodup ks _ ?_
  split
  ·exact h
  ·rename_i hc
   rw [List.nodup_append]
   exact ⟨h,by simp,fun a ha b hb e=>by simp at hb;subst hb;subst e;exact hc ha⟩
theorem numbS_mem:∀ (ks:List (Option κ)) (seen:List κ) (c:κ),c∈numbS ks seen->c∈seen\/∃ s:Nat,ks[s]?=some (some c)
 | [],seen,c,h=>.inl h
 | none :: ks,seen,c,h=>by
  rcases numbS_mem ks seen c h with h | ⟨s,h⟩
  ·exact .inl h
  ·exact .inr ⟨s+1,by simpa using h⟩
 | some d :: ks,seen,c,h=>by
  rcases numbS_mem ks _ c h with h | ⟨s,h⟩
  ·split at h
   ·exact .inl h
   ·rcases List.mem_append.1 h with h | h
    ·exact .inl h
    ·simp at h;exact .inr ⟨0,by simp [h]⟩
  ·exact .inr ⟨s+1,by simpa using h⟩
theorem numb_snoc:∀ (ks:List (Option κ)) (seen:List κ) (x:Option κ),numb (ks++[x]) seen=numb ks seen++(match x with | none=>[-1] | some c=>[((numbS ks seen).idxOf c:Int)])
 | [],seen,none=>rfl
 | [],seen,some c=>rfl
 | none :: ks,seen,x=>by simp [numb,numbS,numb_snoc ks seen x]
 | some d :: ks,seen,x=>by simp [numb,numbS,numb_snoc ks _ x]
theorem numbS_snoc:∀ (ks:List (Option κ)) (seen:List κ) (x:Option κ),numbS (ks++[x]) seen=(match x with | none=>numbS ks seen | some c=>if c∈numbS ks seen then numbS ks seen else numbS ks seen++[c])
 | [],seen,none=>rfl
 | [],seen,some c=>rfl
 | none :: ks,seen,x=>by
  have:=numbS_snoc ks seen x
  cases x<;>exact this
 | some d :: ks,seen,x=>by
  have:=numbS_snoc ks (if d∈seen then seen else seen++[d]) x
  cases x<;>exact this
end
theorem idx_get {κ:Type} [DecidableEq κ]:∀ {l:List κ} {c:κ},c∈l->l[l.idxOf c]?=some c
 | x :: l,c,h=>by
  by_cases e:x=c
  ·subst e;simp
  ·have:c∈l:=by
             rcases List.mem_cons.1 h with h | h
             ·exact absurd h.symm e
             ·exact h
   have e2:(x :: l).idxOf c=l.idxOf c+1:=by rw [List.idxOf_cons,show (x == c)=false from beq_false_of_ne e];rfl
   rw [e2,List.getElem?_cons_succ]
   exact idx_get this
theorem nodup_inj {κ:Type}:∀ {l:List κ} {i j:Nat} {c:κ},l.Nodup->l[i]?=some c->l[j]?=some c->i=j
 | [],i,j,c,_,h,_=>by simp at h
 | x :: l,0,0,c,_,_,_=>rfl
 | x :: l,0,j+1,c,d,h1,h2=>by
  simp at h1 h2
  exact absurd (List.mem_of_getElem? h2) (h1 ▸ (List.nodup_cons.1 d).1)
 | x :: l,i+1,0,c,d,h1,h2=>by
  simp at h1 h2
  exact absurd (List.mem_of_getElem? h1) (h2 ▸ (List.nodup_cons.1 d).1)
 | x :: l,i+1,j+1,c,d,h1,h2=>by
  have:=nodup_inj (i:=i) (j:=j) (c:=c) (List.nodup_cons.1 d).2 (by simpa using h1) (by simpa using h2)
  omega
theorem numb_congr {κ κ':Type} [DecidableEq κ] [DecidableEq κ']:∀ (ks:List (Option κ)) (ls:List (Option κ')) (seen:List κ) (seen':List κ') ,ks.length=ls.length->seen.length=seen'.length ->
  (∀ (s:Nat),ks[s]?=some none↔ls[s]?=some none) ->
  (∀ (s t:Nat) (c d:κ) (c' d':κ'),ks[s]?=some (some c)->ks[t]?=some (some d)->ls[s]?=some (some c')->ls[t]?=some (some d')->(c=d↔c'=d')) ->
  (∀ (s i:Nat) (c:κ) (c':κ'),ks[s]?=some (some c)->ls[s]?=some (some c')->(seen[i]?=some c↔seen'[i]?=some c'))->seen.Nodup->seen'.Nodup->numb ks seen=numb ls seen'
 | [],[],_,_,_,_,_,_,_,_,_=>rfl
 | [],_ :: _,_,_,h,_,_,_,_,_,_=>by simp at h
 | _ :: _,[],_,_,h,_,_,_,_,_,_=>by simp at h
 | k :: ks,l :: ls,seen,seen',hl,hs,hn,hk,hi,d1,d2=>by
  have tail:∀ (a:List κ) (b:List κ'),a.length=b.length->(∀ (s i:Nat) (c:κ) (c':κ'),ks[s]?=some (some c)->ls[s]?=some (some c')->(a[i]?=some c↔b[i]?=some c'))->a.Nodup->b.Nodup->numb ks a=numb ls b:=fun a b h1 h2 h3 h4 =>
   numb_congr ks ls a b (by simpa using hl) h1 (fun s=>by simpa using hn (s+1)) (fun s t c d c' d' g1 g2 g3 g4=>hk (s+1) (t+1) c d c' d' (by simpa using g1) (by simpa using g2) (by simpa using g3) (by simpa using g4)) h2 h3 h4
  cases k with
  | none =>
   cases l with
   | none =>
    simp only [numb]
    rw [tail seen seen' hs (fun s i c c' g1 g2=>hi (s+1) i c c' (by simpa using g1) (by simpa using g2)) d1 d2]
   | some c'=>have:=(hn 0).1 rfl;simp at this
  | some c =>
   cases l with
   | none=>have:=(hn 0).2 rfl;simp at this
   | some c' =>
    have h0:=fun i=>hi 0 i c c' rfl rfl
    have mem:c∈seen↔c'∈seen':=by
     rw [List.mem_iff_getElem?,List.mem_iff_getElem?]
     exact exists_congr h0
    have idx:seen.idxOf c=seen'.idxOf c':=by
     by_cases hc:c∈seen
     ·have e1:seen[seen.idxOf c]?=some c:=idx_get hc
      have e2:=(h0 _).1 e1
      have e3:seen'[seen'.idxOf c']?=some c':=idx_get (mem.1 hc)
      exact nodup_inj d2 e2 e3
     ·rw [List.idxOf_eq_length hc,List.idxOf_eq_length (fun h=>hc (mem.2 h)),hs]
    simp only [numb]
    rw [idx]
    congr 1
    by_cases hc:c∈seen
    ·rw [if_pos hc,if_pos (mem.1 hc)]
     exact tail seen seen' hs (fun s i c c' g1 g2=>hi (s+1) i c c' (by simpa using g1) (by simpa using g2)) d1 d2
    ·rw [if_neg hc,if_neg fun h=>hc (mem.2 h)]
     refine tail _ _ (by simp [hs]) (fun s i d d' g1 g2=>?_) ?_ ?_
     ·by_cases hi':i < seen.length
      ·rw [List.getElem?_append_left hi',List.getElem?_append_left (by omega)]
       exact hi (s+1) i d d' (by simpa using g1) (by simpa using g2)
      ·rw [List.getElem?_append_right (by omega),List.getElem?_append_right (by omega),hs]
       by_cases hz:i - seen'.length=0
       ·rw [hz];simp
        exact hk 0 (s+1) c d c' d' rfl (by simpa using g1) rfl (by simpa using g2)
       ·rw [List.getElem?_eq_none (by simp;omega),List.getElem?_eq_none (by simp;omega)];simp
     ·rw [List.nodup_append];exact ⟨d1,by simp,fun a ha b hb e=>by simp at hb;subst hb;subst e;exact hc ha⟩
     ·rw [List.nodup_append];exact ⟨d2,by simp,fun a ha b hb e=>by simp at hb;subst hb;subst e;exact hc (mem.2 ha)⟩
end Go.Ab.Z
namespace Go.Ab.Z
open Go Go.Ab
variable {R:List (List Int)} {E:List Bool}
theorem nodup_sub_length {κ:Type} [DecidableEq κ]:∀ {l m:List κ},l.Nodup->(∀ x∈l,x∈m)->l.length<=m.length
 | [],m,_,_=>by simp
 | x :: l,m,d,h=>by
  have hx:=h x (by simp)
  have:=nodup_sub_length (l:=l) (m:=m.erase x) (List.nodup_cons.1 d).2 fun y hy=>by
   have hne:y≠x:=fun e=>(List.nodup_cons.1 d).1 (e ▸ hy)
   exact (List.mem_erase_of_ne hne).2 (h y (by simp [hy]))
  rw [List.length_erase_of_mem hx] at this
  have hp:0 < m.length:=List.length_pos_of_mem hx
  simp only [List.length_cons];omega
section
variable {κ κ':Type} [DecidableEq κ] [DecidableEq κ']
def Finer (ks:List (Option κ)) (ls:List (Option κ')):Prop:=(∀ s:Nat,ks[s]?=some none↔ls[s]?=some none)/\ks.length=ls.length /\
 ∀ (s t:Nat) (c:κ) (a b:κ'),ks[s]?=some (some c)->ks[t]?=some (some c)->ls[s]?=some (some a)->ls[t]?=some (some b)->a=b
theorem finer_some {ks:List (Option κ)} {ls:List (Option κ')} (f:Finer ks ls) {s:Nat} {c:κ} (h:ks[s]?=some (some c)):∃ a,ls[s]?=some (some a):=by
 have _i:=‹DecidableEq κ›
 have _j:=‹DecidableEq κ'›
 have hs:=(List.getElem?_eq_some_iff.1 h).1
 have hs':s < ls.length:=by rw [<-f.2.1];exact hs
 cases e:ls[s] with
 | none =>
  have:=(f.1 s).2 (by rw [List.getElem?_eq_getElem hs',e])
  rw [h] at this;cases this
 | some a=>exact ⟨a,by rw [List.getElem?_eq_getElem hs',e]⟩
theorem finer_some' {ks:List (Option κ)} {ls:List (Option κ')} (f:Finer ks ls) {s:Nat} {a:κ'} (h:ls[s]?=some (some a)):∃ c,ks[s]?=some (some c):=by
 have _i:=‹DecidableEq κ›
 have _j:=‹DecidableEq κ'›
 have hs:=(List.getElem?_eq_some_iff.1 h).1
 have hs':s < ks.length:=by rw [f.2.1];exact hs
 cases e:ks[s] with
 | none =>
  have:=(f.1 s).1 (by rw [List.getElem?_eq_getElem hs',e])
  rw [h] at this;cases this
 | some a=>exact ⟨a,by rw [List.getElem?_eq_getElem hs',e]⟩
open Classical in
noncomputable def imgOf (ks:List (Option κ)) (ls:List (Option κ')) (c:κ):Option κ':=if h:∃ a,∃ s:Nat,ks[s]?=some (some c)/\ls[s]?=some (some a) then some h.choose else none
theorem imgOf_eq {ks:List (Option κ)} {ls:List (Option κ')} (f:Finer ks ls) {s:Nat} {c:κ} {a:κ'} (h1:ks[s]?=some (some c)) (h2:ls[s]?=some (some a)):imgOf ks ls c=some a:=by
 have _i:=‹DecidableEq κ›
 have _j:=‹DecidableEq κ'›
 have ex:∃ a,∃ s:Nat,ks[s]?=some (some c)/\ls[s]?=some (some a):=⟨a,s,h1,h2⟩
 unfold imgOf
 rw [dif_pos ex]
 obtain ⟨s',g1,g2⟩:=ex.choose_spec
 exact congrArg some (f.2.2 s' s c _ _ g1 h1 g2 h2)
theorem finer_le {ks:List (Option κ)} {ls:List (Option κ')} (f:Finer ks ls):(numbS ls []).length<=(numbS ks []).length:=by
 refine Nat.le_trans (nodup_sub_length (m:=(numbS ks []).filterMap (imgOf ks ls)) (numbS_nodup _ _ List.nodup_nil) fun a ha=>?_) (List.length_filterMap_le _ _)
 rcases numbS_mem _ _ _ ha with h | ⟨s,h⟩
 ·cases h
 ·obtain ⟨c,hc⟩:=finer_some' f h
  exact List.mem_filterMap.2 ⟨c,(numb_get ks [] s c hc).2,imgOf_eq f hc h⟩
theorem finer_eq {ks:List (Option κ)} {ls:List (Option κ')} (f:Finer ks ls) (e:(numbS ls []).length=(numbS ks []).length) {s t:Nat} {c d:κ} {a:κ'} (h1:ks[s]?=some (some c)) (h2:ks[t]?=some (some d)) (h3:ls[s]?=some (some a)) (h4:ls[t]?=some (some a)):c=d:=by
 refine Classical.byContradiction fun hne=>?_
 have hd:=(numb_get ks [] t d h2).2
 have hc:=(numb_get ks [] s c h1).2
 have:(numbS ls []).length<=(((numbS ks []).erase d).filterMap (imgOf ks ls)).length:=by
  refine nodup_sub_length (numbS_nodup _ _ List.nodup_nil) fun b hb=>?_
  rcases numbS_mem _ _ _ hb with h | ⟨u,h⟩
  ·cases h
  ·obtain ⟨x,hx⟩:=finer_some' f h
   by_cases hxd:x=d
   ·subst hxd
    have:a=b:=f.2.2 t u x a b h2 hx h4 h
    subst this
    exact List.mem_filterMap.2 ⟨c,(List.mem_erase_of_ne hne).2 hc,imgOf_eq f h1 h3⟩
   ·exact List.mem_filterMap.2 ⟨x,(List.mem_erase_of_ne hxd).2 (numb_get ks [] u x hx).2,imgOf_eq f hx h⟩
 have h5:=List.length_filterMap_le (imgOf ks ls) ((numbS ks []).erase d)
 rw [List.length_erase_of_mem hd] at h5
 have hp:0 < (numbS ks []).length:=List.length_pos_of_mem hd
 omega
end
open Classical in
noncomputable def canonC (R:List (List Int)) (E:List Bool):List Int:=numb ((List.range R.length).map fun s=>if Live R E s then some (Acc R E s) else none) []
structure Keys (R:List (List Int)) (E:List Bool) (now:List Int) {κ:Type} (ks:List (Option κ)):Prop where
 len:ks.length=R.length
 dead:∀ s:Nat,s < R.length->(ks[s]?=some none↔¬ Live R E s)
 same:∀ (s t:Nat) (c:κ),ks[s]?=some (some c)->ks[t]?=some (some c)->now.getD s (-1)=now.getD t (-1)
 fin:∀ (s t:Nat) (c:κ),ks[s]?=some (some c)->ks[t]?=some (some c)->(E[s]?=some true↔E[t]?=some true)
 beh:∀ (s t:Nat) (c:κ),ks[s]?=some (some c)->ks[t]?=some (some c)->∀ k,behind R now s k=behind R now t k\/(behind R now s k < 0/\behind R now t k < 0)
 all:∀ (s t:Nat) (c d:κ),ks[s]?=some (some c)->ks[t]?=some (some d)->now.getD s (-1)=now.getD t (-1)->(E[s]?=some true↔E[t]?=some true)->(∀ k,behind R now s k=behind R now t k\/(behind R now s k < 0/\behind R now t k < 0))->c=d
structure Coarse (R:List (List Int)) (E:List Bool) (now:List Int):Prop where
 len:now.length=R.length
 marks:Marks R E now
 mn:∀ s t:Nat,Live R E s->MN R E s t->now.getD s (-1)=now.getD t (-1)
section
variable {κ:Type} [DecidableEq κ] {now:List Int} {ks:List (Option κ)}
theorem live_lt (hE:E.length=R.length) {s:Nat} (h:Live R E s):s < R.length:=by
 cases h with
 | fin h=>rw [<-hE];exact (List.getElem?_eq_some_iff.1 h).1
 | step h _ _=>exact (List.getElem?_eq_some_iff.1 h).1
theorem Keys.some_of (K:Keys R E now ks) (hE:E.length=R.length) {s:Nat} (h:Live R E s):∃ c,ks[s]?=some (some c):=by
 have _i:=‹DecidableEq κ›
 have hs:=live_lt hE h
 have hs':s < ks.length:=by rw [K.len];exact hs
 cases e:ks[s] with
 | none=>exact absurd h ((K.dead s hs).1 (by rw [List.getElem?_eq_getElem hs',e]))
 | some c=>exact ⟨c,by rw [List.getElem?_eq_getElem hs',e]⟩
theorem Keys.live_of (K:Keys R E now ks) {s:Nat} {c:κ} (h:ks[s]?=some (some c)):Live R E s:=by
 have _i:=‹DecidableEq κ›
 have hs:s < R.length:=by rw [<-K.len];exact (List.getElem?_eq_some_iff.1 h).1
 refine Classical.byContradiction fun hn=>?_
 rw [(K.dead s hs).2 hn] at h;cases h
theorem numb_getD {s:Nat} {c:κ} (h:ks[s]?=some (some c)):(numb ks []).getD s (-1)=((numbS ks []).idxOf c:Int):=by
 rw [List.getD_eq_getElem?_getD,(numb_get ks [] s c h).1];rfl
theorem Keys.mn_key (K:Keys R E now ks) (C:Coarse R E now) {s t:Nat} {c d:κ} (h1:ks[s]?=some (some c)) (h2:ks[t]?=some (some d)) (h:MN R E s t):c=d :=
 K.all s t c d h1 h2 (C.mn s t (K.live_of h1) h) (h []) fun k=>mn_behind C.marks C.mn h
theorem Keys.next (K:Keys R E now ks) (C:Coarse R E now) (hE:E.length=R.length):Coarse R E (numb ks []):=by
 refine ⟨by rw [numb_length,K.len],fun s=>?_,fun s t hl h=>?_⟩
 ·constructor
  ·intro h
   have hs:s < ks.length:=by
    rw [List.getD_eq_getElem?_getD] at h
    cases e:(numb ks [])[s]? with
    | none=>rw [e] at h;simp at h
    | some x=>have:=(List.getElem?_eq_some_iff.1 e).1;rwa [numb_length] at this
   cases e:ks[s] with
   | none =>
    have:=numb_none ks [] s (by rw [List.getElem?_eq_getElem hs,e])
    rw [List.getD_eq_getElem?_getD,this] at h;simp at h
   | some c=>exact K.live_of (c:=c) (by rw [List.getElem?_eq_getElem hs,e])
  ·intro h
   obtain ⟨c,hc⟩:=K.some_of hE h
   rw [numb_getD hc];omega
 ·obtain ⟨c,hc⟩:=K.some_of hE hl
  have hl':Live R E t:=by
   obtain ⟨w,hw⟩:=live_acc.1 hl
   exact live_acc.2 ⟨w,(h w).1 hw⟩
  obtain ⟨d,hd⟩:=K.some_of hE hl'
  have:=K.mn_key C hc hd h
  subst this
  rw [numb_getD hc,numb_getD hd]
theorem Keys.final (K:Keys R E now ks) (C:Coarse R E now) (hE:E.length=R.length)
  (st:∀ (s t:Nat) (c d:κ),ks[s]?=some (some c)->ks[t]?=some (some d)->now.getD s (-1)=now.getD t (-1)->c=d):numb ks []=canonC R E:=by
 have key:∀ (s t:Nat) (c d:κ),ks[s]?=some (some c)->ks[t]?=some (some d)->(c=d↔MN R E s t):=by
  intro s t c d hc hd
  refine ⟨fun e=>?_,K.mn_key C hc hd⟩
  subst e
  have some':∀ {u:Nat},0<=now.getD u (-1)->∃ x,ks[u]?=some (some x):=fun {u} h=>K.some_of hE ((C.marks u).1 h)
  have tog:∀ (u v:Nat),0<=now.getD u (-1)->now.getD u (-1)=now.getD v (-1)->∃ x,ks[u]?=some (some x)/\ks[v]?=some (some x):=by
   intro u v h1 h2
   obtain ⟨x,hx⟩:=some' h1
   obtain ⟨y,hy⟩:=some' (u:=v) (by omega)
   have:=st u v x y hx hy h2
   subst this
   exact ⟨x,hx,hy⟩
  have bs:=bisim C.marks (fun u v h1 h2=>by obtain ⟨x,hx,hy⟩:=tog u v h1 h2;exact K.fin u v x hx hy) (fun u v k h1 h2=>by obtain ⟨x,hx,hy⟩:=tog u v h1 h2;exact K.beh u v x hx hy k)
  have l1:=(C.marks s).2 (K.live_of hc)
  have l2:=(C.marks t).2 (K.live_of hd)
  have e:=K.same s t c hc hd
  intro w
  exact ⟨bs w s t l1 e,bs w t s l2 e.symm⟩
 unfold canonC
 have lt_of:∀ {s:Nat} {x:Option (List Nat->Prop)},(List.map (fun s=>@ite (Option (List Nat->Prop)) (Live R E s) (Classical.propDecidable _) (some (Acc R E s)) none) (List.range R.length))[s]?=some x->s < R.length:=fun h=>by
  have:=(List.getElem?_eq_some_iff.1 h).1;simpa using this
 refine @numb_congr κ (List Nat->Prop) _ (Classical.typeDecidableEq _) ks _ [] [] (by simp [K.len]) rfl (fun s=>?_) (fun s t c d c' d' h1 h2 h3 h4=>?_) (fun s i c c' _ _=>by simp) List.nodup_nil List.nodup_nil
 ·by_cases hs:s < R.length
  ·rw [K.dead s hs,List.getElem?_map,List.getElem?_range hs]
   by_cases hl:Live R E s<;>simp [hl]
  ·rw [List.getElem?_eq_none (by rw [K.len];omega),List.getElem?_eq_none (by simp;omega)]
   simp
 ·rw [key s t c d h1 h2]
  have s1:=lt_of h3
  have t1:=lt_of h4
  rw [List.getElem?_map,List.getElem?_range s1] at h3
  rw [List.getElem?_map,List.getElem?_range t1] at h4
  simp only [Option.map_some,if_pos (K.live_of h1),Option.some.injEq] at h3
  simp only [Option.map_some,if_pos (K.live_of h2),Option.some.injEq] at h4
  subst h3;subst h4
  constructor
  ·intro h;funext w;exact propext (h w)
  ·intro h w;rw [h]
theorem Keys.finer {κ':Type} [DecidableEq κ'] {ls:List (Option κ')} {was:List Int} (K:Keys R E now ks) (K0:Keys R E was ls) (e:now=numb ls []):Finer ks ls:=by
 have _i:=‹DecidableEq κ›
 refine ⟨fun s=>?_,by rw [K.len,K0.len],fun s t c a b h1 h2 h3 h4=>?_⟩
 ·by_cases hs:s < R.length
  ·rw [K.dead s hs,K0.dead s hs]
  ·rw [List.getElem?_eq_none (by rw [K.len];omega),List.getElem?_eq_none (by rw [K0.len];omega)]
   simp
 ·have:=K.same s t c h1 h2
  rw [e,numb_getD h3,numb_getD h4] at this
  have g1:=idx_get (numb_get ls [] s a h3).2
  have g2:=idx_get (numb_get ls [] t b h4).2
  have e2:(numbS ls []).idxOf a=(numbS ls []).idxOf b:=by omega
  rw [e2,g2] at g1
  exact (Option.some.inj g1).symm
theorem numbS_le (ks:List (Option κ)):(numbS ks []).length<=ks.length:=by
 have:∀ (ks:List (Option κ)) (seen:List κ),(numbS ks seen).length<=ks.length+seen.length:=by
  intro ks
  induction ks with
  | nil=>intro seen;simp [numbS]
  | cons k ks ih =>
   intro seen
   cases k with
   | none=>have:=ih seen;simp only [numbS,List.length_cons];omega
   | some c =>
    have:=ih (if c∈seen then seen else seen++[c])
    simp only [numbS,List.length_cons]
    split at this
    ·rename_i h;rw [if_pos h];omega
    ·rename_i h;rw [if_neg h];simp only [List.length_append,List.length_singleton] at this;omega
 simpa using this ks []
end
end Go.Ab.Z
namespace Go.Ab.Z
open Go Go.Ab
variable {h h':AHeap} {k:Post} {fe le en mo to:AVal} {A:PAlpha} {R:List (List Int)} {E:List Bool}
def valP (now:List Int) (t:Int):Int:=if t < 0 then -1 else now.getD t.toNat (-1)
theorem behind_val (R:List (List Int)) (now:List Int) (s k:Nat):behind R now s k=match (R.getD s [])[k]? with | some t=>valP now t | none=>-1:=by
 unfold behind valP;rfl
structure NowOk (R:List (List Int)) (E:List Bool) (now:List Int):Prop where
 co:Coarse R E now
 neg:∀ s:Nat,now.getD s (-1) < 0->now.getD s (-1)=-1
 top:∀ s:Nat,now.getD s (-1) < 5000
theorem NowOk.val {now:List Int} (o:NowOk R E now) (t:Int):-1<=valP now t/\valP now t < 5000:=by
 unfold valP
 split
 ·omega
 ·have:=o.neg t.toNat;have:=o.top t.toNat;omega
theorem NowOk.beh {now:List Int} (o:NowOk R E now) {s t k:Nat} (h:behind R now s k=behind R now t k\/(behind R now s k < 0/\behind R now t k < 0)):behind R now s k=behind R now t k:=by
 have neg:∀ s,behind R now s k < 0->behind R now s k=-1:=by
  intro s hs
  rw [behind_val] at hs ⊢
  cases hr:(R.getD s [])[k]? with
  | none=>rfl
  | some t=>rw [hr] at hs;simp only at hs ⊢;have:=o.val t;omega
 rcases h with h | ⟨h1,h2⟩
 ·exact h
 ·rw [neg _ h1,neg _ h2]
theorem numb_ok {κ:Type} [DecidableEq κ] {now:List Int} {ks:List (Option κ)} (K:Keys R E now ks) (o:NowOk R E now) (hE:E.length=R.length) (hn:R.length<=4200):NowOk R E (numb ks []):=by
 have hc:=K.next o.co hE
 have vals:∀ s:Nat,(numb ks []).getD s (-1)=-1\/(0<=(numb ks []).getD s (-1)/\(numb ks []).getD s (-1) < 5000):=by
  intro s
  by_cases hs:s < ks.length
  ·cases e:ks[s] with
   | none=>left;rw [List.getD_eq_getElem?_getD,numb_none ks [] s (by rw [List.getElem?_eq_getElem hs,e])];rfl
   | some c =>
    have hc:ks[s]?=some (some c):=by rw [List.getElem?_eq_getElem hs,e]
    right
    rw [numb_getD hc]
    have h1:=List.idxOf_lt_length_of_mem (numb_get ks [] s c hc).2
    have h2:=numbS_le ks
    have h3:=K.len
    omega
  ·left;rw [List.getD_eq_getElem?_getD,List.getElem?_eq_none (by rw [numb_length];omega)];rfl
 exact ⟨hc,fun s h=>(vals s).elim id fun h2=>by omega,fun s=>(vals s).elim (fun h=>by omega) fun h=>h.2⟩
abbrev Ky:Type:={ c:List Int // c.length=129 }
def keyL (r:List Int) (x:Int):List Int:=r++List.replicate (128 - r.length) 0++[x]
theorem keyL_len {r:List Int} (h:r.length<=128) (x:Int):(keyL r x).length=129:=by simp [keyL];omega
theorem keyL_inj {r r':List Int} {x x':Int} (hl:r.length=r'.length) (h:keyL r x=keyL r' x'):r=r'/\x=x':=by
 unfold keyL at h
 rw [hl] at h
 have h1:=List.append_inj' h rfl
 have h2:=List.append_inj h1.1 hl
 exact ⟨h2.1,by simpa using h1.2⟩
def keyP (R:List (List Int)) (now:List Int) (s:Nat):List Int:=keyL ((R.getD s []).map (valP now)) (now.getD s (-1))
open Classical in
noncomputable def ksP (R:List (List Int)) (now:List Int):List (Option Ky):=(List.range R.length).map fun s=>if h:now.getD s (-1) < 0\/¬ (keyP R now s).length=129 then none else some ⟨keyP R now s,by simp at h;exact h.2⟩
theorem ksP_get {now:List Int} {s:Nat} (hs:s < R.length) (hr:(R.getD s []).length<=128) (h:0<=now.getD s (-1)):(ksP R now)[s]?=some (some ⟨keyP R now s,keyL_len (by simpa using hr) _⟩):=by
 unfold ksP
 rw [List.getElem?_map,List.getElem?_range hs]
 simp only [Option.map_some]
 rw [dif_neg]
 rintro (h1 | h1)
 ·omega
 ·exact h1 (keyL_len (by simpa using hr) _)
theorem ksP_none {now:List Int} {s:Nat} (hs:s < R.length) (h:now.getD s (-1) < 0):(ksP R now)[s]?=some none:=by
 unfold ksP
 rw [List.getElem?_map,List.getElem?_range hs]
 simp only [Option.map_some]
 rw [dif_pos (.inl h)]
theorem ksP_some {now:List Int} {s:Nat} {c:Ky} (h:(ksP R now)[s]?=some (some c)):s < R.length/\0<=now.getD s (-1)/\c.1=keyP R now s:=by
 have hs:s < R.length:=by have:=(List.getElem?_eq_some_iff.1 h).1;simpa [ksP] using this
 unfold ksP at h
 rw [List.getElem?_map,List.getElem?_range hs] at h
 simp only [Option.map_some,Option.some.injEq] at h
 split at h
 ·cases h
 ·rename_i hn
  simp at hn
  cases h
  exact ⟨hs,by omega,rfl⟩
theorem keysP {now:List Int} {L:Nat} (o:NowOk R E now) (fin:∀ s t:Nat,0<=now.getD s (-1)->now.getD s (-1)=now.getD t (-1)->(E[s]?=some true↔E[t]?=some true)) (hL:∀ r∈R,r.length=L) (h128:L<=128):Keys R E now (ksP R now):=by
 have rl:∀ {s:Nat},s < R.length->(R.getD s []).length=L:=fun {s} hs=>by rw [List.getD_eq_getElem?_getD,List.getElem?_eq_getElem hs];exact hL _ (List.getElem_mem hs)
 have inj:∀ {s t:Nat} {c:Ky},(ksP R now)[s]?=some (some c)->(ksP R now)[t]?=some (some c)->(R.getD s []).map (valP now)=(R.getD t []).map (valP now)/\now.getD s (-1)=now.getD t (-1):=by
  intro s t c h1 h2
  obtain ⟨s1,s2,s3⟩:=ksP_some h1
  obtain ⟨t1,t2,t3⟩:=ksP_some h2
  rw [s3] at t3
  exact keyL_inj (by simp only [List.length_map];rw [rl s1,rl t1]) t3
 refine ⟨by simp [ksP],fun s hs=>?_,fun s t c h1 h2=>(inj h1 h2).2,fun s t c h1 h2=>fin s t (ksP_some h1).2.1 (inj h1 h2).2,fun s t c h1 h2 k=>.inl ?_,fun s t c d h1 h2 h3 _ h5=>?_⟩
 ·rw [<-o.co.marks s]
  constructor
  ·intro h hp
   rw [ksP_get hs (by rw [rl hs];exact h128) hp] at h;cases h
  ·intro h;exact ksP_none hs (by omega)
 ·have e:=congrArg (fun l=>l[k]?) (inj h1 h2).1
  simp only [List.getElem?_map] at e
  rw [behind_val,behind_val]
  cases hs:(R.getD s [])[k]? with
  | none =>
   rw [hs] at e
   cases ht:(R.getD t [])[k]? with
   | none=>rfl
   | some b=>rw [ht] at e;cases e
  | some a =>
   rw [hs] at e
   cases ht:(R.getD t [])[k]? with
   | none=>rw [ht] at e;cases e
   | some b=>rw [ht] at e;simpa using e
 ·obtain ⟨s1,s2,s3⟩:=ksP_some h1
  obtain ⟨t1,t2,t3⟩:=ksP_some h2
  apply Subtype.ext
  rw [s3,t3]
  unfold keyP
  rw [h3]
  congr 1
  apply List.ext_getElem?
  intro k
  rw [List.getElem?_map,List.getElem?_map]
  have:=o.beh (h5 k)
  rw [behind_val,behind_val] at this
  by_cases hk:k < L
  ·rw [List.getElem?_eq_getElem (by rw [rl s1];exact hk),List.getElem?_eq_getElem (by rw [rl t1];exact hk)] at this ⊢
   simp only at this
   simp only [Option.map_some,Option.some.injEq]
   exact this
  ·rw [List.getElem?_eq_none (by rw [rl s1];omega),List.getElem?_eq_none (by rw [rl t1];omega)]
def i16 (n:Int):AVal:=.int .i16 n
def K249:KeyT:=⟨249,true,List.replicate 129 (.int .i16)⟩
def eA (c:Ky):AVal:=.agg (c.1.map i16)
theorem keyEqs_i16:∀ a b:List Int,keyEqs (a.map i16) (b.map i16)=decide (a=b)
 | [],[]=>rfl
 | [],_ :: _=>by show false=_;simp
 | _ :: _,[]=>by show false=_;simp
 | x :: a,y :: b=>by
  show bi (eqI x y) (keyEqs (a.map i16) (b.map i16)) false=_
  rw [keyEqs_i16 a b,eqI_eq,bi_eq,Bool.eq_iff_iff]
  by_cases h:x=y<;>simp [h]
theorem fits_i16:∀ (n:Nat) (a:List Int),a.length=n->fitsLeaves (List.replicate n (.int .i16)) (a.map i16)=true
 | 0,[],_=>rfl
 | n+1,x :: a,h=>by
  rw [List.replicate_succ]
  show bi (fitsLeaf (.int .i16) (i16 x)) (fitsLeaves (List.replicate n (.int .i16)) (a.map i16)) false=true
  rw [fits_i16 n a (by simpa using h)];rfl
 | 0,_ :: _,h=>by simp at h
 | n+1,[],h=>by simp at h
theorem hasPtr_i16:∀ n:Nat,hasPtr (List.replicate n (.int .i16))=false
 | 0=>rfl
 | n+1=>by rw [List.replicate_succ];exact hasPtr_i16 n
theorem kd249:Kd Ky Int K249 eA vI:=⟨fun a=>by
 show bi (true == true) (fitsLeaves (List.replicate 129 (.int .i16)) (a.1.map i16)) false=true
 rw [fits_i16 129 a.1 a.2];rfl,hasPtr_i16 129,fun a b=>by
 show keyEqs (a.1.map i16) (b.1.map i16)=_
 rw [keyEqs_i16]
 rw [Bool.eq_iff_iff];simp [Subtype.ext_iff]⟩
section
variable {κ:Type} [DecidableEq κ] {K:KeyT} {ek:κ->AVal}
structure MemC (K:KeyT) (ek:κ->AVal) (h₀ h:AHeap) (n:Nat) (nv xv:AVal) (mb:Nat) (now next:List Int) (m:List (κ×Int)):Prop where
 wf:WF h
 hle:Hle h₀ h
 now:ORow h 1 nv n (now.map vI)
 next:ORow h 1 xv n (next.map vI)
 map:MapOf K ek vI h mb m
 gn:∀ j∈blkOf nv,h₀.next<=j
 gx:∀ j∈blkOf xv,h₀.next<=j/\j∉blkOf nv
 gm:h₀.next<=mb/\mb∉blkOf nv/\mb∉blkOf xv
variable {h₀:AHeap} {n:Nat} {nv xv:AVal} {mb:Nat} {now next:List Int} {m:List (κ×Int)}
theorem MemC.mono (M:MemC K ek h₀ h n nv xv mb now next m) (w:WF h') (l:Hle h h'):MemC K ek h₀ h' n nv xv mb now next m :=
 ⟨w,M.hle.trans l,M.now.mono l,M.next.mono l,M.map.mono l,M.gn,M.gx,M.gm⟩
theorem blk_pos {v:AVal} {n:Nat} {cs:List AVal} (o:ORow h 1 v n cs) (hn:0 < n):blkOf v=[rowB v]:=by
 obtain ⟨_,⟨_,e⟩ | ⟨b,cap,rest,rfl,_⟩⟩:=o
 ·omega
 ·rfl
theorem MemC.set (M:MemC K ek h₀ h n nv xv mb now next m) (w₀:WF h₀) {i:Nat} (hi:i < n) (x:Int) :
  ∃ h2,h.write (rowB xv) i [.int .i64 x]=some h2/\MemC K ek h₀ h2 n nv xv mb now (next.set i x) m:=by
 obtain ⟨h2,a1,a2,a3⟩:=M.next.write1 (i:=i) (c:=vI x) hi rfl
 have eb:=blk_pos M.next (by omega)
 have hb:=M.gx (rowB xv) (by rw [eb];simp)
 have hlt:=own_lt M.next M.wf (rowB xv) (by rw [eb];simp)
 refine ⟨h2,a1,a3.wf M.wf hlt,a3.hle M.hle w₀ hb.1,own_kp M.now fun j hj=>But.kp a3 fun e=>hb.2 (e ▸ hj),?_,M.map.keep (a3.get mb fun e=>M.gm.2.2 (by rw [eb,e];simp)),M.gn,M.gx,M.gm⟩
 rw [List.map_set];exact a2
theorem MemC.upd (M:MemC K ek h₀ h n nv xv mb now next m) (w₀:WF h₀) (kd:Kd κ Int K ek vI) (a:κ) (x:Int) :
  ∃ h2,updateA K (.map mb) (ek a) (.int .i64 x) h=some (none,h2)/\MemC K ek h₀ h2 n nv xv mb now next (aput m a x):=by
 obtain ⟨h2,a1,a2,a3⟩:=M.map.update kd a x
 have hlt:=M.map.lt M.wf
 refine ⟨h2,a1,a3.wf M.wf hlt,a3.hle M.hle w₀ M.gm.1,own_kp M.now fun j hj=>But.kp a3 fun e=>M.gm.2.1 (e ▸ hj),own_kp M.next fun j hj=>But.kp a3 fun e=>M.gm.2.2 (e ▸ hj),a2,M.gn,M.gx,M.gm⟩
end
theorem orow_rd {v:AVal} {n i:Nat} {l:List Int} (o:ORow h 1 v n (l.map vI)) (hi:i < l.length) (hn:i < n):indexAddrS 1 v (.int .i64 (i:Int))=some (.ptr (rowB v) i)/\h.read1 (rowB v) i=some (.int .i64 l[i]):=by
 have i1:=o.idx hn .i64
 rw [Nat.mul_one] at i1
 obtain ⟨rest,r⟩:=o.blk (by omega)
 exact ⟨i1,r.rd1 (by rw [List.getElem?_append_left (by simpa using hi)];simp [hi,vI])⟩
def MapS {κ:Type} [DecidableEq κ] (m:List (κ×Int)) (S:List κ) (off:Int):Prop:=m.length=S.length/\∀ c,aget m c=if c∈S then some ((S.idxOf c:Int)+off) else none
theorem aput_length {κ ν:Type} [DecidableEq κ] (m:List (κ×ν)) (a:κ) (v:ν) (h:aget m a=none):(aput m a v).length=m.length+1:=by rw [aput_new m a v h];simp
theorem MapS.push {κ:Type} [DecidableEq κ] {m:List (κ×Int)} {S:List κ} {off:Int} (h:MapS m S off) {c:κ} (hc:c∉S):MapS (aput m c ((S.length:Int)+off)) (S++[c]) off:=by
 have e:=h.2 c
 rw [if_neg hc] at e
 refine ⟨by rw [aput_length _ _ _ e,h.1];simp,fun d=>?_⟩
 rw [aget_aput]
 by_cases hd:d=c
 ·subst hd
  rw [if_pos rfl,if_pos (by simp),List.idxOf_append,if_neg hc]
  simp
 ·rw [if_neg hd,h.2 d]
  simp only [List.mem_append,List.mem_singleton,hd,or_false]
  by_cases hs:d∈S
  ·rw [if_pos hs,if_pos hs,List.idxOf_append,if_pos hs]
  ·rw [if_neg hs,if_neg hs]
def idxK {κ:Type} [DecidableEq κ] (S:List κ) (c:κ):Nat:=S.idxOf c
section
variable {κ:Type} [DecidableEq κ]
theorem idxK_get {l:List κ} {c:κ} (h:c∈l):l[idxK l c]?=some c:=idx_get h
theorem numb_getK {ks:List (Option κ)} {s:Nat} {c:κ} (h:ks[s]?=some (some c)):(numb ks []).getD s (-1)=(idxK (numbS ks []) c:Int):=numb_getD h
theorem numb_none' (ks:List (Option κ)) (seen:List κ):numb (ks++[none]) seen=numb ks seen++[-1]:=numb_snoc ks seen none
theorem numb_some' (ks:List (Option κ)) (seen:List κ) (c:κ):numb (ks++[some c]) seen=numb ks seen++[(idxK (numbS ks seen) c:Int)]:=numb_snoc ks seen (some c)
theorem numbS_none' (ks:List (Option κ)) (seen:List κ):numbS (ks++[none]) seen=numbS ks seen:=numbS_snoc ks seen none
theorem numbS_old (ks:List (Option κ)) (seen:List κ) (c:κ) (h:c∈numbS ks seen):numbS (ks++[some c]) seen=numbS ks seen:=by
 rw [numbS_snoc];simp only;rw [if_pos h]
theorem numbS_new (ks:List (Option κ)) (seen:List κ) (c:κ) (h:c∉numbS ks seen):numbS (ks++[some c]) seen=numbS ks seen++[c]:=by
 rw [numbS_snoc];simp only;rw [if_neg h]
theorem idxK_new {l:List κ} {c:κ} (h:c∉l):idxK l c=l.length:=List.idxOf_eq_length h
theorem MapS.old {m:List (κ×Int)} {S:List κ} {off:Int} (h:MapS m S off) {c:κ} (hc:c∈S):aget m c=some ((idxK S c:Int)+off):=by rw [h.2,if_pos hc];rfl
theorem MapS.new {m:List (κ×Int)} {S:List κ} {off:Int} (h:MapS m S off) {c:κ} (hc:c∉S):aget m c=none:=by rw [h.2,if_neg hc]
end
end Go.Ab.Z
namespace Go.Ab.Z
open Go Go.Ab
variable {h h':AHeap} {k:Post} {fe le en mo to:AVal} {A:PAlpha} {R:List (List Int)} {E:List Bool}
theorem wrap16 {n:Int} (h1:-32768<=n) (h2:n < 32768):wrapF .i16 n=n:=by
 cases n with
 | ofNat m =>
  show bi (Nat.ble (m+1) 32768) (Int.ofNat m) _=_
  rw [nble,bi_eq,if_pos]
  rw [Int.ofNat_eq_natCast] at h2
  simp;omega
 | negSucc m =>
  show bi (Nat.ble (m+1) 32768) (Int.negSucc m) _=_
  rw [nble,bi_eq,if_pos]
  rw [Int.negSucc_eq] at h1
  simp;omega
theorem MemC.but {κ:Type} [DecidableEq κ] {K:KeyT} {ek:κ->AVal} {h₀:AHeap} {n:Nat} {nv xv:AVal} {mb:Nat} {now next:List Int} {m:List (κ×Int)} (M:MemC K ek h₀ h n nv xv mb now next m) (w₀:WF h₀) {b:Nat} (a3:But b h h') (hb:b < h.next)
  (h0:h₀.next<=b) (h1:b∉blkOf nv) (h2:b∉blkOf xv) (h3:b≠mb):MemC K ek h₀ h' n nv xv mb now next m :=
 ⟨a3.wf M.wf hb,a3.hle M.hle w₀ h0,own_kp M.now fun j hj=>But.kp a3 fun e=>h1 (e ▸ hj),own_kp M.next fun j hj=>But.kp a3 fun e=>h2 (e ▸ hj),M.map.keep (a3.get mb fun e=>h3 e.symm),M.gn,M.gx,M.gm⟩
def keyT (r:List Int) (j:Nat) (x:Int):List Int:=r.take j++List.replicate (128 - j) 0++[x]
theorem keyT_len {r:List Int} {j:Nat} (hj:j<=r.length) (hr:r.length<=128) (x:Int):(keyT r j x).length=129:=by simp [keyT];omega
theorem keyT_set {r:List Int} {j:Nat} (hj:j < r.length) (hr:r.length<=128) (x:Int):(keyT r j x).set j r[j]=keyT r (j+1) x:=by
 unfold keyT
 rw [List.append_assoc,List.set_append_right _ _ (by simp;omega),List.take_succ_eq_append_getElem hj,show 128 - j=(128 - (j+1))+1 by omega,List.replicate_succ]
 simp [show min j r.length=j by omega]
 rw [List.take_succ_eq_append_getElem hj,List.append_assoc]
 rfl
theorem keyT_all (r:List Int) (x:Int):keyT r r.length x=keyL r x:=by simp [keyT,keyL]
theorem keyT_zero (r:List Int) (x:Int):keyT r 0 x=List.replicate 128 0++[x]:=by simp [keyT]
theorem take_set_succ {l:List Int} {i:Nat} (hi:i < l.length) (x:Int):(l.set i x).take (i+1)=l.take i++[x]:=by
 rw [List.take_succ_eq_append_getElem (by simpa using hi),List.take_set_of_le (Nat.le_refl i)]
 simp
@[simp] theorem onNat_128 {β:Type} (k:IntKind) (f:Nat->Option β):onNat (.int k 128) f=f 128:=(rfl)
theorem MapS.nil {κ:Type} [DecidableEq κ] (off:Int):MapS ([]:List (κ×Int)) [] off:=⟨rfl,fun c=>by simp [aget]⟩
theorem take_snoc {α:Type} {l:List α} {i:Nat} {x:α} (h:l[i]?=some x):l.take (i+1)=l.take i++[x]:=by
 have hi:=(List.getElem?_eq_some_iff.1 h).1
 rw [List.take_succ_eq_append_getElem hi]
 rw [List.getElem?_eq_getElem hi] at h
 rw [Option.some.inj h]
theorem f119 {m L:Nat} {own:List Nat} (M:Mach h m fe le L R E own) (hne:R≠[]) (hb:∀ r∈R,∀ t∈r,t < (R.length:Int)) (hn:R.length<=4097) (hL:L<=128)
  (H:∀ h' v,WF h'->Hle h h'->ORow h' 1 v R.length ((canonC R E).map vI)->(∀ j∈blkOf v,h.next<=j)->k v h'):Cf 119 [.ptr m 0] h k:=by
 refine use_code compiled119 fun hw=>?_
 have MM:=M
 obtain ⟨tv,ev,rb,rfl,M⟩:=M
 have hm:=M.box.lt hw
 have r2:=M.box.rd1 (i:=2) (c:=tv) rfl
 have tl:=M.to.len
 have hpos:0 < R.length:=by cases R with | nil=>exact absurd rfl hne | cons _ _=>simp
 have hE:E.length=R.length:=M.ne
 have rl:∀ r∈R,r.length=L:=fun r hr=>by obtain ⟨i,hi,rfl⟩:=List.getElem_of_mem hr;exact M.rlen hi
 have hw1:=hw.newCells (List.replicate R.length (vI 0))
 have le1:=Hle.newCells hw (List.replicate R.length (vI 0))
 simp [fn119,r2,tl,repeatL_one]
 rw [decide_eq_true (by omega:R.length<=16777216)]
 simp
 refine f157 (MM.mono le1) hne hb hn hL fun h2 ob out w2 le2 hob ol oiff oo=>?_
 simp only [next_newCells] at hob
 have n0:ORow h2 1 (.slice h.next 0 R.length R.length 1) R.length ((List.replicate R.length (0:Int)).map vI):=by
  rw [List.map_replicate]
  exact (ORow.fresh h (by simp)).mono le2
 have le12:=le1.trans le2
 generalize hnv:(AVal.slice h.next 0 R.length R.length 1)=nv0 at *
 generalize hov:(AVal.slice ob 0 R.length R.length 1)=ov at *
 have bn:blkOf nv0=[h.next]:=by rw [<-hnv];rfl
 have bo:blkOf ov=[ob]:=by rw [<-hov];rfl
 have ovl:=oo.len
 simp [ovl]
 rw [L119_1]
 refine loop_by (σ:=Nat) (fun i h'=>i<=R.length/\WF h'/\Hle h h'/\ORow h' 1 ov R.length (out.map .bool)/\∃ cur:List Int,ORow h' 1 nv0 R.length (cur.map vI)/\cur.length=R.length /\
   (∀ s:Nat,i<=s->s < R.length->cur[s]?=some 0)/\∀ s:Nat,s < i->cur[s]?=some (if out.getD s false=true then (if E.getD s false=true then 1 else 0) else -1))
  (fun i=>[(0,.ptr m 0),(3,nv0),(23,ov),(24,.int .i64 R.length),(25,.int .i64 i)]) (fun i=>R.length - i) 0 (by simp) ?_ ?_
 ·exact ⟨Nat.zero_le _,w2,le12,oo,_,n0,by simp,fun s _ hs=>by simp [hs],fun s hs=>by omega⟩
 clear n0 w2 oo ovl
 rintro i h3 K ⟨hi,w3,le3,oo,cur,oc,cl,cz,cd⟩ hK
 simp
 refine ap_split (fun hc=>?_) (fun hc=>?_)
 ·have hc:i < R.length:=by omega
  have hio:i < out.length:=by omega
  have hiE:i < E.length:=by omega
  have o1:=oo.idx hc .i64
  rw [Nat.mul_one] at o1
  obtain ⟨orest,orr⟩:=oo.blk hpos
  have o2:=orr.rd1 (i:=i) (c:=.bool out[i]) (by rw [List.getElem?_append_left (by simpa using hio)];simp [hio])
  have c1:=oc.idx hc .i64
  rw [Nat.mul_one] at c1
  have wr:wrapF .i64 ((i:Int)+1)=(i:Int)+1:=wrap64 (by omega) (by omega)
  have bnr:rowB nv0=h.next:=by rw [<-hnv];rfl
  have step:∀ x:Int,(x=if out.getD i false=true then (if E.getD i false=true then 1 else 0) else -1)->∃ h4,h3.write (rowB nv0) i [.int .i64 x]=some h4/\WF h4/\Hle h h4/\ORow h4 1 ov R.length (out.map .bool)/\ORow h4 1 nv0 R.length ((cur.set i x).map vI) /\
    (∀ s:Nat,i+1<=s->s < R.length->(cur.set i x)[s]?=some 0)/\∀ s:Nat,s < i+1->(cur.set i x)[s]?=some (if out.getD s false=true then (if E.getD s false=true then 1 else 0) else -1):=by
   intro x hx
   obtain ⟨h4,a1,a2,a3⟩:=oc.write1 (i:=i) (c:=vI x) hc rfl
   have hlt:=own_lt oc w3 h.next (by rw [bn];simp)
   rw [bnr] at a3
   refine ⟨h4,a1,a3.wf w3 hlt,a3.hle le3 hw (Nat.le_refl _),own_kp oo fun j hj=>But.kp a3 (by rw [bo] at hj;simp at hj;omega),by rw [List.map_set];exact a2,fun s h1 h2=>?_,fun s hs=>?_⟩
   ·rw [List.getElem?_set,if_neg (by omega)];exact cz s (by omega) h2
   ·rw [List.getElem?_set]
    by_cases e:i=s
    ·subst e;rw [if_pos rfl,if_pos (by omega),hx]
    ·rw [if_neg e];exact cd s (by omega)
  simp [o1,o2]
  refine ap_cases (fun hq=>?_) (fun hq=>?_)
  ·have r3:=(M.box.mono le3).rd1 (i:=3) (c:=ev) rfl
   have e1:=M.en.row1.idx (i:=i) (by simpa using hiE) .i64
   have e2:=((M.en.row1).mono le3).rd (i:=i) (c:=.bool E[i]) (by simp [hiE])
   simp [r3,e1,e2]
   refine ap_cases (fun hr=>?_) (fun hr=>?_)
   ·obtain ⟨h4,a1,a2,a3,a4,a5,a6,a7⟩:=step 1 (by simp [hio,hq,hiE,hr])
    simp [c1,a1,wr]
    exact hK (i+1) _ _ (by omega) (by simp) ⟨by omega,a2,a3,a4,_,a5,by simp [cl],a6,a7⟩
   ·simp [wr]
    refine hK (i+1) _ _ (by omega) (by simp) ⟨by omega,w3,le3,oo,cur,oc,cl,fun s h1 h2=>cz s (by omega) h2,fun s hs=>?_⟩
    by_cases e:s=i
    ·subst e;rw [cz s (Nat.le_refl _) hc];simp [hio,hq,hiE,hr]
    ·exact cd s (by omega)
  ·obtain ⟨h4,a1,a2,a3,a4,a5,a6,a7⟩:=step (-1) (by simp [hio,hq])
   simp [c1,a1,wr]
   exact hK (i+1) _ _ (by omega) (by simp) ⟨by omega,a2,a3,a4,_,a5,by simp [cl],a6,a7⟩
 ·have:i=R.length:=by omega
  subst this
  have curD:∀ s:Nat,cur.getD s (-1)=if out.getD s false=true then (if E.getD s false=true then 1 else 0) else -1:=by
   intro s
   rw [List.getD_eq_getElem?_getD]
   by_cases hs:s < R.length
   ·rw [cd s hs];rfl
   ·rw [List.getElem?_eq_none (by omega)]
    have:out.getD s false=false:=by rw [List.getD_eq_getElem?_getD,List.getElem?_eq_none (by omega)];rfl
    rw [this];rfl
  have outL:∀ s:Nat,out.getD s false=true↔Live R E s:=by
   intro s
   by_cases hs:s < out.length
   ·rw [List.getD_eq_getElem?_getD,List.getElem?_eq_getElem hs];exact oiff s hs
   ·rw [List.getD_eq_getElem?_getD,List.getElem?_eq_none (by omega)]
    constructor
    ·intro h;cases h
    ·intro h;exact absurd (live_lt hE h) (by omega)
  have ED:∀ s:Nat,E.getD s false=true↔E[s]?=some true:=by
   intro s
   rw [List.getD_eq_getElem?_getD]
   cases E[s]? with
   | none=>simp
   | some b=>simp
  have fin0:∀ s t:Nat,0<=cur.getD s (-1)->cur.getD s (-1)=cur.getD t (-1)->(E[s]?=some true↔E[t]?=some true):=by
   intro s t h1 h2
   rw [curD,curD] at h2
   rw [curD] at h1
   rw [<-ED,<-ED]
   have key:∀ p q r u:Bool,(0:Int)<=(if p=true then (if r=true then 1 else 0) else -1)->(if p=true then (if r=true then 1 else 0) else -1:Int)=(if q=true then (if u=true then 1 else 0) else -1)->(r=true↔u=true):=by decide
   exact key _ _ _ _ h1 h2
  have ok0:NowOk R E cur:=by
   refine ⟨⟨cl,fun s=>?_,fun s t hl hmn=>?_⟩,fun s hs=>?_,fun s=>?_⟩
   ·rw [curD,<-outL s]
    by_cases a1:out.getD s false=true<;>by_cases a3:E.getD s false=true<;>simp only [a1,a3,if_true,if_false]<;>simp
   ·have hl':Live R E t:=by
     obtain ⟨w,hw⟩:=live_acc.1 hl
     exact live_acc.2 ⟨w,(hmn w).1 hw⟩
    rw [curD,curD,(outL s).2 hl,(outL t).2 hl']
    have:E.getD s false=E.getD t false:=by rw [Bool.eq_iff_iff,ED,ED];exact hmn []
    rw [this]
   ·rw [curD] at hs ⊢
    by_cases a1:out.getD s false=true<;>by_cases a3:E.getD s false=true<;>simp only [a1,a3,if_true,if_false] at hs ⊢<;>omega
   ·rw [curD]
    by_cases a1:out.getD s false=true<;>by_cases a3:E.getD s false=true<;>simp only [a1,a3,if_true,if_false]<;>omega
  simp
  clear hK K
  rw [L119_2]
  refine loop_by (σ:=AVal×Nat) (fun st h'=>WF h'/\Hle h h'/\st.2<=R.length/\∃ now:List Int,ORow h' 1 st.1 R.length (now.map vI)/\(∀ j∈blkOf st.1,h.next<=j)/\NowOk R E now /\
    (∀ s t:Nat,0<=now.getD s (-1)->now.getD s (-1)=now.getD t (-1)->(E[s]?=some true↔E[t]?=some true))/\(st.2=0\/∃ (was:List Int) (ls:List (Option Ky)),Keys R E was ls/\now=numb ls []/\st.2=(numbS ls []).length))
   (fun st=>[(0,.ptr m 0),(3,st.1),(6,.int .i64 st.2)]) (fun st=>R.length - st.2) (nv0,0) (by simp) ?_ ?_
  ·exact ⟨w3,le3,Nat.zero_le _,cur,oc,fun j hj=>by rw [bn] at hj;simp at hj;omega,ok0,fin0,.inl rfl⟩
  clear oc oo w3 le3 ok0 fin0 curD outL ED cd cz cl bn bo oiff ol hob hnv hov le12 le2
  rintro ⟨nv,many⟩ h3 K ⟨w3,le3,hmany,now,on,gn,ok,fin,hist⟩ hK
  simp only at hmany on gn hist hK
  have nl:=on.len
  have nwl:now.length=R.length:=ok.co.len
  have hge3:=le3.next
  have wm:=w3.new (.map 249 [] 0)
  have lem:=Hle.new w3 (.map 249 [] 0)
  have hw5:=wm.newCells (List.replicate R.length (vI 0))
  have le5:=lem.trans (Hle.newCells wm (List.replicate R.length (vI 0)))
  have r2':=(M.box.mono (le3.trans le5)).rd1 (i:=2) (c:=tv) rfl
  simp [nl,repeatL_one]
  rw [decide_eq_true (by omega:R.length<=16777216)]
  simp
  have r2'':((h3.new (.map 249 [] 0)).newCells (List.replicate R.length (.int .i64 0))).read1 m 2=some tv:=r2'
  have r2m:=(M.box.mono (le3.trans lem)).rd1 (i:=2) (c:=tv) rfl
  have hm3:m≠h3.next+1:=by omega
  have hm3':m≠h3.next:=by omega
  simp [hm3,hm3',(M.box.mono le3).rd1 (i:=2) (c:=tv) rfl,tl]
  have K1:=keysP ok fin rl hL
  have C0:MemC K249 eA h ((h3.new (.map 249 [] 0)).newCells (List.replicate R.length (vI 0))) R.length nv (.slice (h3.next+1) 0 R.length R.length 1) h3.next now (List.replicate R.length 0) []:=by
   refine ⟨hw5,le3.trans le5,on.mono le5,?_,(MapOf.new (K:=K249) (ek:=eA) (ev:=vI) h3).mono (Hle.newCells wm _),gn,fun j hj=>?_,⟨by omega,fun hj=>by have:=own_lt on w3 _ hj;omega,by simp [blkOf]⟩⟩
   ·rw [List.map_replicate];exact ORow.fresh (h3.new (.map 249 [] 0)) (by simp)
   ·simp [blkOf] at hj;subst hj
    exact ⟨by omega,fun hj=>by have:=own_lt on w3 _ hj;omega⟩
  have bx:blkOf (AVal.slice (h3.next+1) 0 R.length R.length 1)=[h3.next+1]:=rfl
  generalize (AVal.slice (h3.next+1) 0 R.length R.length 1)=xv at *
  generalize h3.next=mb at *
  rw [L119_3]
  refine loop_by (σ:=Nat) (fun i h'=>i<=R.length/\∃ next m,MemC K249 eA h h' R.length nv xv mb now next m/\next.length=R.length/\next.take i=numb ((ksP R now).take i) []/\MapS m (numbS ((ksP R now).take i) []) 0)
   (fun i=>[(0,.ptr m 0),(3,nv),(6,.int .i64 many),(7,.map mb),(8,xv),(55,tv),(56,.int .i64 R.length),(57,.int .i64 i)]) (fun i=>R.length - i) 0 (by simp) ?_ ?_
  ·exact ⟨Nat.zero_le _,_,[],C0,by simp,by simp [numb],by simp [numbS];exact MapS.nil 0⟩
  clear C0 hw5 le5 lem wm r2' r2'' r2m on nl hm3 hm3' hge3 w3 le3
  rintro i h4 K2 ⟨hi,next,mp,C,xl,xt,ms⟩ hK2
  simp
  refine ap_split (fun hc=>?_) (fun hc=>?_)
  ·have hc:i < R.length:=by omega
   obtain ⟨x,a1,a2,a3⟩:=M.rowsI.get hc
   have xll:=a3.len
   simp only [List.length_map] at xll
   have hrl:R[i].length=L:=M.rlen hc
   obtain ⟨h5,s1,C5⟩:=C.set hw hc (-1)
   have s0:=C.next.idx hc .i64
   rw [Nat.mul_one] at s0
   obtain ⟨n1,n2⟩:=orow_rd (i:=i) C5.now (by omega) hc
   have gdi:now.getD i (-1)=now[i]:=by rw [List.getD_eq_getElem?_getD,List.getElem?_eq_getElem (by omega)];rfl
   have wr:wrapF .i64 ((i:Int)+1)=(i:Int)+1:=wrap64 (by omega) (by omega)
   simp [a1,read1_hle C.hle a2,s0,s1,n1,n2]
   refine ap_split (fun hd=>?_) (fun hd=>?_)
   ·simp [wr]
    have kn:=ksP_none (R:=R) (now:=now) hc (by rw [gdi];exact hd)
    refine hK2 (i+1) _ _ (by omega) (by simp) ⟨by omega,_,mp,C5,by simp [xl],?_,?_⟩
    ·rw [take_set_succ (by omega),take_snoc kn,numb_none',xt]
    ·rw [take_snoc kn,numbS_none'];exact ms
   ·have hpos':0<=now.getD i (-1):=by rw [gdi];omega
    have rgd:R.getD i []=R[i]:=by rw [List.getD_eq_getElem?_getD,List.getElem?_eq_getElem hc];rfl
    have kc:=ksP_get (R:=R) hc (by rw [rgd];omega) hpos'
    have kdef:keyP R now i=keyL (R[i].map (valP now)) now[i]:=by unfold keyP;rw [rgd,gdi]
    have w6:=C5.wf.newCells (List.replicate 129 (i16 0))
    have le6:=Hle.newCells C5.wf (List.replicate 129 (i16 0))
    have v6:=Blk.new h5 (List.replicate 129 (i16 0))
    have C6:=C5.mono w6 le6
    obtain ⟨p1,p2⟩:=orow_rd (i:=i) C6.now (by omega) hc
    have hg5:=C5.hle.next
    have b11n:h5.next∉blkOf nv:=fun hj=>by have:=own_lt C5.now C5.wf _ hj;omega
    have b11x:h5.next∉blkOf xv:=fun hj=>by have:=own_lt C5.next C5.wf _ hj;omega
    have b11m:h5.next≠mb:=by have:=C5.map.lt C5.wf;omega
    have w16:wrapF .i16 now[i]=now[i]:=wrap16 (by have:=ok.neg i;omega) (by have:=ok.top i;omega)
    obtain ⟨h7,t1,t2,t3⟩:=v6.write1 (i:=128) (c:=i16 now[i]) (by rw [List.length_replicate];omega) rfl
    have C7:=C6.but hw t3 (by simp) (by omega) b11n b11x b11m
    have t2:Blk h7 h5.next ((keyT (R[i].map (valP now)) 0 now[i]).map i16):=by
     have:(List.replicate 129 (i16 0)).set 128 (i16 now[i])=(keyT (R[i].map (valP now)) 0 now[i]).map i16:=by
      rw [keyT_zero,List.map_append,List.map_replicate,show 129=128+1 from rfl,List.replicate_succ',List.set_append_right _ _ (by rw [List.length_replicate];omega),List.length_replicate]
      rfl
     rw [this] at t2;exact t2
    have p2':(h5.newCells (List.replicate 129 (.int .i16 0))).read1 (rowB nv) i=some (.int .i64 now[i]):=p2
    have t1':(h5.newCells (List.replicate 129 (.int .i16 0))).write h5.next 128 [.int .i16 now[i]]=some h7:=t1
    simp [-List.reduceReplicate,n1,p2',w16,indexAddrA,t1',xll]
    have b11g:h.next<=h5.next:=by omega
    generalize h5.next=b11 at *
    clear t1 t1' p1 p2 p2' v6 w6 le6 C6 C5 s1 n2
    rw [L119_4]
    refine loop_by (σ:=Nat) (fun j h'=>j<=R[i].length/\MemC K249 eA h h' R.length nv xv mb now (next.set i (-1)) mp/\Blk h' b11 ((keyT (R[i].map (valP now)) j now[i]).map i16))
     (fun j=>[(0,.ptr m 0),(3,nv),(6,.int .i64 many),(7,.map mb),(8,xv),(9,.int .i64 i),(11,.ptr b11 0),(55,tv),(56,.int .i64 R.length),(57,.int .i64 i),(76,x),(77,.int .i64 R[i].length),(78,.int .i64 j)]) (fun j=>R[i].length - j) 0 (by simp) ?_ ?_
    ·exact ⟨Nat.zero_le _,C7,t2⟩
    clear C7 t2 t3 C
    rintro j h8 K3 ⟨hj,C,v8⟩ hK3
    simp
    refine ap_split (fun hq=>?_) (fun hq=>?_)
    ·have hq:j < R[i].length:=by omega
     have b1:=a3.idx (i:=j) (by simpa using hq) .i64
     have b3:=(a3.mono C.hle).rd (i:=j) (c:=vI R[i][j]) (by simp [hq])
     have wrj:wrapF .i64 ((j:Int)+1)=(j:Int)+1:=wrap64 (by omega) (by omega)
     have hlen:((keyT (R[i].map (valP now)) j now[i]).map i16).length=129:=by rw [List.length_map];exact keyT_len (by simp only [List.length_map];omega) (by simp only [List.length_map];omega) _
     obtain ⟨h9,u1,u2,u3⟩:=v8.write1 (i:=j) (c:=i16 (-1)) (by omega) rfl
     have C9:=C.but hw u3 (v8.lt C.wf) b11g b11n b11x b11m
     have u1':h8.write b11 j [.int .i16 (-1)]=some h9:=u1
     have kset:∀ y:Int,valP now R[i][j]=y->((keyT (R[i].map (valP now)) j now[i]).map i16).set j (i16 y)=(keyT (R[i].map (valP now)) (j+1) now[i]).map i16:=by
      intro y hy
      have:=keyT_set (r:=R[i].map (valP now)) (j:=j) (by simpa using hq) (by simp only [List.length_map];omega) now[i]
      rw [List.getElem_map,hy] at this
      rw [<-this,List.map_set]
     simp [b1,b3,vI,indexAddrA,show j<=128 by omega,u1']
     refine ap_split (fun hr=>?_) (fun hr=>?_)
     ·simp [wrj]
      refine hK3 (j+1) _ _ (by omega) (by simp) ⟨by omega,C9,?_⟩
      rw [<-kset (-1) (by unfold valP;rw [if_pos hr])]
      exact u2
     ·obtain ⟨t,ht⟩:=Int.eq_ofNat_of_zero_le (by omega:0<=R[i][j])
      have htl:t < R.length:=by have:=hb R[i] (List.getElem_mem hc) R[i][j] (List.getElem_mem hq);omega
      obtain ⟨y1,y2⟩:=orow_rd (i:=t) C9.now (by omega) htl
      have gdt:now.getD t (-1)=now[t]:=by rw [List.getD_eq_getElem?_getD,List.getElem?_eq_getElem (by omega)];rfl
      have w16':wrapF .i16 now[t]=now[t]:=wrap16 (by have:=ok.neg t;omega) (by have:=ok.top t;omega)
      obtain ⟨h10,z1,z2,z3⟩:=u2.write1 (i:=j) (c:=i16 now[t]) (by rw [List.length_set];omega) rfl
      have C10:=C9.but hw z3 (u2.lt C9.wf) b11g b11n b11x b11m
      have z1':h9.write b11 j [.int .i16 now[t]]=some h10:=z1
      rw [ht]
      simp [y1,y2,w16',indexAddrA,show j<=128 by omega,z1',wrj]
      refine hK3 (j+1) _ _ (by omega) (by simp) ⟨by omega,C10,?_⟩
      rw [List.set_set,kset now[t] (by unfold valP;rw [ht,if_neg (by omega),Int.toNat_natCast,gdt])] at z2
      exact z2
    ·have:j=R[i].length:=by omega
     subst this
     rw [show R[i].length=(R[i].map (valP now)).length by simp,keyT_all,<-kdef] at v8
     have klen:(keyP R now i).length=129:=by rw [kdef];exact keyL_len (by simp only [List.length_map];omega) _
     have rd:=v8.rd (off:=0) (n:=129) (l:=(keyP R now i).map i16) (by rw [List.length_map,klen];omega) (by rw [List.drop_zero,<-klen,<-List.length_map (f:=i16),List.take_length])
     have lk:=C.map.lookup kd249 ⟨keyP R now i,klen⟩ (.int .i64 0) true
     have ml:=C.map.len
     by_cases hin:(⟨keyP R now i,klen⟩:Ky)∈numbS ((ksP R now).take i) []
     ·rw [ms.old hin,Int.add_zero] at lk
      have lk:lookupA ⟨249,true,List.replicate 129 (.int .i16)⟩ (.int .i64 0) true (.map mb) (.agg ((keyP R now i).map i16)) h8=some (.tup [.int .i64 (idxK (numbS ((ksP R now).take i) []) ⟨keyP R now i,klen⟩:Int),.bool true]):=lk
      obtain ⟨g1,e1,C2⟩:=C.set hw hc (idxK (numbS ((ksP R now).take i) []) ⟨keyP R now i,klen⟩:Int)
      have s0':=C.next.idx hc .i64
      rw [Nat.mul_one] at s0'
      simp [-List.reduceReplicate,rd,lk]
      simp [s0',e1,wr]
      refine hK2 (i+1) _ _ (by omega) (by simp) ⟨by omega,_,mp,C2,by simp [xl],?_,?_⟩
      ·rw [take_set_succ (by simp;omega),List.take_set_of_le (Nat.le_refl i),take_snoc kc,numb_some',xt]
      ·rw [take_snoc kc,numbS_old _ _ _ hin];exact ms
     ·rw [ms.new hin] at lk
      have lk:lookupA ⟨249,true,List.replicate 129 (.int .i16)⟩ (.int .i64 0) true (.map mb) (.agg ((keyP R now i).map i16)) h8=some (.tup [.int .i64 0,.bool false]):=lk
      obtain ⟨g0,e0,C1⟩:=C.upd hw kd249 ⟨keyP R now i,klen⟩ (mp.length:Int)
      have e0:updateA ⟨249,true,List.replicate 129 (.int .i16)⟩ (.map mb) (.agg ((keyP R now i).map i16)) (.int .i64 mp.length) h8=some (none,g0):=e0
      obtain ⟨g1,e1,C2⟩:=C1.set hw hc (mp.length:Int)
      have s0':=C.next.idx hc .i64
      rw [Nat.mul_one] at s0'
      have ml':(Go.Ab.ob (h8.get mb) fun y=>onEntries y fun _ es _=>some (AVal.int .i64 (es.length:Int)))=some (.int .i64 (mp.length:Int)):=by simpa using ml
      simp [-List.reduceReplicate,rd,lk,ml',e0,s0',e1,wr]
      refine hK2 (i+1) _ _ (by omega) (by simp) ⟨by omega,_,_,C2,by simp [xl],?_,?_⟩
      ·rw [take_set_succ (by simp;omega),List.take_set_of_le (Nat.le_refl i),take_snoc kc,numb_some',xt,idxK_new hin,ms.1]
      ·rw [take_snoc kc,numbS_new _ _ _ hin]
       have:=ms.push hin
       rw [<-ms.1,Int.add_zero] at this
       exact this
  ·have:i=R.length:=by omega
   subst this
   have kl:(ksP R now).length=R.length:=K1.len
   rw [<-xl,List.take_length,xl,<-kl,List.take_length] at xt
   rw [<-kl,List.take_length] at ms
   subst xt
   have ml:=C.map.len
   have ml':(Go.Ab.ob (h4.get mb) fun y=>onEntries y fun _ es _=>some (AVal.int .i64 (es.length:Int)))=some (.int .i64 (mp.length:Int)):=by simpa using ml
   simp [ml']
   refine ap_split (fun hq=>?_) (fun hq=>?_)
   ·have hq:mp.length=many:=by omega
    simp
    intro w
    refine H h4 xv w C.hle ?_ fun j hj=>(C.gx j hj).1
    have e:numb (ksP R now) []=canonC R E:=by
     refine K1.final ok.co hE fun s t c d h1 h2 h3=>?_
     rcases hist with h0 | ⟨was,ls,q1,q2,q3⟩
     ·have hz:(numbS (ksP R now) []).length=0:=by rw [<-ms.1];omega
      have:=(numb_get (ksP R now) [] s c h1).2
      rw [List.length_eq_zero_iff.1 hz] at this;cases this
     ·have fr:=K1.finer q1 q2
      obtain ⟨a,ha⟩:=finer_some fr h1
      obtain ⟨b,hb'⟩:=finer_some fr h2
      have hab:a=b:=by
       rw [q2,numb_getK ha,numb_getK hb'] at h3
       have g1:=idxK_get (numb_get ls [] s a ha).2
       have g2:=idxK_get (numb_get ls [] t b hb').2
       have e2:idxK (numbS ls []) a=idxK (numbS ls []) b:=by omega
       rw [e2,g2] at g1
       exact (Option.some.inj g1).symm
      subst hab
      exact finer_eq fr (by rw [<-q3,<-ms.1];omega) h1 h2 ha hb'
    rw [<-e];exact C.next
   ·simp [ml']
    have hle':many<=mp.length:=by
     rcases hist with h0 | ⟨was,ls,q1,q2,q3⟩
     ·omega
     ·rw [ms.1,q3];exact finer_le (K1.finer q1 q2)
    have hub:mp.length<=R.length:=by rw [ms.1,<-kl];exact numbS_le _
    have okn:=numb_ok K1 ok hE (by omega)
    refine hK (xv,mp.length) _ _ (by simp;omega) (by simp) ⟨C.wf,C.hle,by simp;omega,_,C.next,fun j hj=>(C.gx j hj).1,okn,fun s t h1 h2=>?_,.inr ⟨now,ksP R now,K1,rfl,ms.1⟩⟩
    have ls1:=(okn.co.marks s).1 h1
    have ls2:=(okn.co.marks t).1 (by omega)
    obtain ⟨c,hc1⟩:=K1.some_of hE ls1
    obtain ⟨d,hd1⟩:=K1.some_of hE ls2
    rw [numb_getK hc1,numb_getK hd1] at h2
    have g1:=idxK_get (numb_get (ksP R now) [] s c hc1).2
    have g2:=idxK_get (numb_get (ksP R now) [] t d hd1).2
    have e2:idxK (numbS (ksP R now) []) c=idxK (numbS (ksP R now) []) d:=by omega
    rw [e2,g2] at g1
    have:=Option.some.inj g1
    subst this
    exact K1.fin s t _ hc1 hd1
end Go.Ab.Z
namespace Go.Ab.Z
open Go Go.Ab
variable {h h':AHeap} {k:Post} {fe le en mo to:AVal} {A:PAlpha} {R:List (List Int)} {E:List Bool}
def keyB (x:Int):List UInt8:=[UInt8.ofNat ((x+1).toNat / 256),UInt8.ofNat ((x+1).toNat % 256)]
def keyBytes (l:List Int):List UInt8:=l.flatMap keyB
def bI (b:UInt8):AVal:=.int .u8 (b.toNat:Int)
theorem keyB_inj {x y:Int} (hx:-1<=x/\x < 65000) (hy:-1<=y/\y < 65000) (h:keyB x=keyB y):x=y:=by
 unfold keyB at h
 injection h with h1 h2
 injection h2 with h2 _
 have e1:=congrArg UInt8.toNat h1
 have e2:=congrArg UInt8.toNat h2
 simp at e1 e2
 omega
theorem keyBytes_inj:∀ {l m:List Int},(∀ x∈l,-1<=x/\x < 65000)->(∀ x∈m,-1<=x/\x < 65000)->keyBytes l=keyBytes m->l=m
 | [],[],_,_,_=>rfl
 | [],y :: m,_,_,h=>by simp [keyBytes,keyB] at h
 | x :: l,[],_,_,h=>by simp [keyBytes,keyB] at h
 | x :: l,y :: m,h1,h2,h=>by
  have h:keyB x++keyBytes l=keyB y++keyBytes m:=by simpa [keyBytes] using h
  obtain ⟨e1,e2⟩:=List.append_inj h (by simp [keyB])
  rw [keyB_inj (h1 x (by simp)) (h2 y (by simp)) e1,keyBytes_inj (fun z hz=>h1 z (by simp [hz])) (fun z hz=>h2 z (by simp [hz])) e2]
theorem keyBytes_snoc (l:List Int) (x:Int):keyBytes (l++[x])=keyBytes l++keyB x:=by simp [keyBytes]
theorem bytesOf_bI:∀ bs:List UInt8,bytesOf (bs.map bI)=some bs
 | []=>rfl
 | b :: bs=>by
  show bi (sameK .u8 .u8) (ob (bytesOf (bs.map bI)) fun s=>some (UInt8.ofNat ((b.toNat:Int)).toNat :: s)) none=_
  rw [bytesOf_bI bs];simp
theorem wrapU8 {n:Int} (h1:0<=n) (h2:n < 256):wrapF .u8 n=n:=by
 obtain ⟨m,rfl⟩:=Int.eq_ofNat_of_zero_le h1
 show bi (Nat.ble (m+1) 256) (Int.ofNat m) _=_
 rw [nble,bi_eq,if_pos]
 ·rfl
 ·simp;omega
theorem quo256 (a:Nat) (ha:a < 100000):binI .quo .i64 .i64 (a:Int) 256=some (.int .i64 ((a / 256:Nat):Int)):=by
 show bi (sameK .i64 .i64) (bi (eqI 256 0) none (some (AVal.int .i64 (wrapF .i64 ((a:Int).tdiv 256))))) none=_
 rw [sameK_self,bi_true,eqI_eq]
 rw [show ((a:Int).tdiv 256)=((a / 256:Nat):Int) from by rw [Int.tdiv_eq_ediv_of_nonneg (by omega)];omega,wrap64 (by omega) (by omega)]
 rfl
theorem rem256 (a:Nat) (ha:a < 100000):binI .rem .i64 .i64 (a:Int) 256=some (.int .i64 ((a % 256:Nat):Int)):=by
 show bi (sameK .i64 .i64) (bi (eqI 256 0) none (some (AVal.int .i64 ((a:Int).tmod 256)))) none=_
 rw [sameK_self,bi_true,eqI_eq]
 rw [show ((a:Int).tmod 256)=((a % 256:Nat):Int) from by rw [Int.tmod_eq_emod_of_nonneg (by omega)];omega]
 rfl
theorem f122 {v:AVal} {l:List Int} (hv:Row1 h v (l.map vI)) (hb:∀ x∈l,-1<=x/\x < 65000) (hn:l.length<=100000) (H:∀ h',WF h'->Hle h h'->k (.str (keyBytes l)) h'):Cf 122 [v] h k:=by
 refine use_code compiled122 fun hw=>?_
 have vl:=hv.len
 simp only [List.length_map] at vl
 have m1:wrapF .i64 (2*(l.length:Int))=((2*l.length:Nat):Int):=by rw [wrap64 (by omega) (by omega)];omega
 have ms:makeSliceA 1 [.int .u8 0] (.int .i64 0) (.int .i64 ((2*l.length:Nat):Int)) h=some (some (.slice h.next 0 0 (2*l.length) 1),h.newCells (repeatL [.int .u8 0] (2*l.length))):=by
  have:=makeSliceA_eq 1 [.int .u8 0] 0 (2*l.length) h
  rw [show ((0:Nat):Int)=0 from rfl] at this
  rw [this,nble,nble,decide_eq_true (by omega),decide_eq_true (by omega)];rfl
 have ms':=ms
 rw [show ((2*l.length:Nat):Int)=2*(l.length:Int) by omega] at ms'
 simp [fn122,vl]
 rw [m1]
 simp [ms',-List.reduceReplicate]
 have hw1:=hw.newCells (repeatL [.int .u8 0] (2*l.length))
 have le1:=Hle.newCells hw (repeatL [.int .u8 0] (2*l.length))
 rw [L122_1]
 refine loop_by (σ:=Nat×AVal) (fun st h'=>st.1<=l.length/\WF h'/\Hle h h'/\ORow h' 1 st.2 (2*st.1) ((keyBytes (l.take st.1)).map bI)/\∀ j∈blkOf st.2,h.next<=j)
  (fun st=>[(0,v),(3,st.2),(4,.int .i64 st.1)]) (fun st=>l.length - st.1) (0,.slice h.next 0 0 (2*l.length) 1) (by simp) ?_ ?_
 ·refine ⟨Nat.zero_le _,hw1,le1,?_,fun j hj=>by simp [blkOf] at hj;omega⟩
  exact ⟨by simp [keyBytes],.inr ⟨h.next,2*l.length,repeatL [.int .u8 0] (2*l.length),rfl,by simp,by simpa [keyBytes] using Blk.new h (repeatL [.int .u8 0] (2*l.length))⟩⟩
 rintro ⟨i,a⟩ h3 K ⟨hi,w3,le3,oa,ga⟩ hK
 simp only at hi oa ga hK
 simp [vl]
 refine ap_split (fun hc=>?_) (fun hc=>?_)
 ·have hc:i < l.length:=by omega
  have b1:=hv.idx (i:=i) (by simpa using hc) .i64
  have b2:=(hv.mono le3).rd (i:=i) (c:=vI l[i]) (by simp [hc])
  have hx:=hb l[i] (List.getElem_mem hc)
  obtain ⟨y,hy⟩:=Int.eq_ofNat_of_zero_le (by omega:0<=l[i]+1)
  have w1:wrapF .i64 (l[i]+1)=(y:Int):=by rw [wrap64 (by omega) (by omega),hy]
  have q1:=quo256 y (by omega)
  have q2:=rem256 y (by omega)
  have u1:wrapF .u8 ((y / 256:Nat):Int)=((y / 256:Nat):Int):=wrapU8 (by omega) (by omega)
  have u2:wrapF .u8 ((y % 256:Nat):Int)=((y % 256:Nat):Int):=wrapU8 (by omega) (by omega)
  have kb:keyB l[i]=[UInt8.ofNat (y / 256),UInt8.ofNat (y % 256)]:=by unfold keyB;rw [hy];simp
  have c1:(.int .u8 ((y / 256:Nat):Int):AVal)=bI (UInt8.ofNat (y / 256)):=by unfold bI;congr 1;simp;omega
  have c2:(.int .u8 ((y % 256:Nat):Int):AVal)=bI (UInt8.ofNat (y % 256)):=by unfold bI;congr 1;simp
  have w4:=w3.newCells ((keyB l[i]).map bI)
  have le4:=Hle.newCells w3 ((keyB l[i]).map bI)
  have mm:more (h3.newCells ((keyB l[i]).map bI)) 1 (.slice h3.next 0 2 2 1)=some (2,(keyB l[i]).map bI):=(ORow.fresh h3 (sz:=1) (n:=2) (cs:=(keyB l[i]).map bI) (by simp [keyB])).more
  obtain ⟨h5,e1,e2,e3,e4⟩:=(oa.mono le4).append w4 mm (by simp [keyB]) (by omega) (by omega) (by rw [allOne_iff];intro x hx;obtain ⟨c,_,rfl⟩:=List.mem_map.1 hx;rfl)
  have e1':appendA (h3.newCells [.int .u8 ((y / 256:Nat):Int),.int .u8 ((y % 256:Nat):Int)]) 1 a (.slice h3.next 0 2 2 1)=some (some (.slice (h3.next+1) 0 (2*i+2) (2*i+2) 1),h5):=by
   rw [c1,c2];rw [kb] at e1;exact e1
  simp [b1,b2,vI,w1,q1,q2,u1,u2,listPut,-Int.natCast_ediv,-Int.natCast_emod,e1']
  rw [wrap64 (by omega) (by omega)]
  refine hK (i+1,.slice (h3.next+1) 0 (2*i+2) (2*i+2) 1) _ _ (by simp;omega) (by simp) ⟨by simp;omega,e3,⟨by rw [e4.next];have:=le3.next;simp;omega,fun j x e=>?_⟩,?_,fun j hj=>?_⟩
  ·refine grown_kp e4 w4 (orow_kinds oa) (fun hj=>?_) x (le4.get j x (le3.get j x e))
   have:=ga j hj;have:=hw.lt e;omega
  ·rw [List.take_succ_eq_append_getElem hc,keyBytes_snoc,List.map_append]
   simp only [next_newCells] at e2
   rw [show 2*(i+1)=2*i+2 by omega]
   exact e2
  ·simp [blkOf] at hj;have:=le3.next;omega
 ·have:i=l.length:=by omega
  subst this
  rw [List.take_length] at oa
  have mr:=oa.more
  simp
  have cv:convA .bytesToStr a h3=some (some (.str (keyBytes l)),h3):=by
   obtain ⟨hl,⟨rfl,e⟩ | ⟨b,cap,rest,rfl,_,r⟩⟩:=oa
   ·have:l=[]:=List.length_eq_zero_iff.1 (by omega)
    subst this;rfl
   ·have rd:=r.rd (off:=0) (n:=2*l.length) (l:=(keyBytes l).map bI) (by rw [List.length_append];omega) (by rw [List.drop_zero];rw [Nat.mul_one] at hl;rw [<-hl,List.take_left])
    show ob (h3.read b 0 (2*l.length)) (fun vs=>ob (bytesOf vs) fun s=>ret h3 (.str s))=_
    rw [rd,ob_some,bytesOf_bI];rfl
  simp [cv]
  intro w
  exact H _ w le3
end Go.Ab.Z
