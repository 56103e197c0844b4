/- Part 7 of the proof of Rows.AutoTwoUptoCardSaid (the conditions: those of the given row alone). Laid by program (pack.py) out of the texts in wip/, remarks left out. -/
import Derived.Test.YtnaccglcbfeenaaGreatDoorT6
set_option linter.unusedSimpArgs false
set_option linter.unusedVariables false
set_option maxHeartbeats 1000000
namespace Go.Ab.Z
open Go Go.Ab
abbrev N4:Type:=K2×Int×Int
def stepS (R R':List (List Int)) (n:Nat) (w:List N4) (c:Nat):List N4:=match w[n]? with
 | none=>w
 | some x=>if ((stepP R R' x.1 c).1 < 0/\(stepP R R' x.1 c).2 < 0)\/stepP R R' x.1 c∈w.map (·.1) then w else w++[(stepP R R' x.1 c,(n:Int),(c:Int))]
def rowSS (R R':List (List Int)) (n:Nat) (ks:List Nat) (w:List N4):List N4:=ks.foldl (stepS R R' n) w
def backS (w:List N4):Nat->Nat->List Int
 | 0,_=>[]
 | F+1,k=>match w[k]? with
  | none=>[]
  | some x=>if x.2.1 < 0 then [] else x.2.2 :: backS w F x.2.1.toNat
def sameS (R R':List (List Int)) (E E':List Bool) (L:Nat):Nat->Nat->List N4->Bool×List Int×Int
 | 0,_,_=>(true,[],0)
 | F+1,n,w=>match w[n]? with
  | none=>(true,[],0)
  | some x=>if endG E x.1.1≠endG E' x.1.2 then (if 256 < (backS w w.length n).length then (false,[],9) else (false,backS w w.length n,0))
   else sameS R R' E E' L F (n+1) (rowSS R R' n (List.range L) w)
structure SOk (n₁ n₂ L:Nat) (w:List N4):Prop where
 nd:(w.map (·.1)).Nodup
 inp:∀ x∈w,InP n₁ n₂ x.1
 fr:∀ (i:Nat) (x:N4),w[i]?=some x->x.2.1 < (i:Int)/\-1<=x.2.1
 by_:∀ x∈w,0<=x.2.2/\x.2.2 < (L:Int)
def bigF (n₁ n₂:Nat):Nat:=(n₁+1)*(n₂+1)+1
theorem SOk.le {n₁ n₂ L:Nat} {w:List N4} (o:SOk n₁ n₂ L w):w.length < bigF n₁ n₂:=by
 have cd:∀ x∈w,((x.1.1+1)*((n₂:Int)+1)+(x.1.2+1))∈(List.range ((n₁+1)*(n₂+1))).map fun i:Nat=>(i:Int):=by
  intro x hx
  obtain ⟨⟨a1,a2⟩,b1,b2⟩:=o.inp x hx
  obtain ⟨a,ha⟩:=Int.eq_ofNat_of_zero_le (by omega:0<=x.1.1+1)
  obtain ⟨b,hb⟩:=Int.eq_ofNat_of_zero_le (by omega:0<=x.1.2+1)
  rw [ha,hb]
  refine List.mem_map.2 ⟨a*(n₂+1)+b,?_,by simp⟩
  rw [List.mem_range]
  have h1:a<=n₁:=by omega
  have h2:b<=n₂:=by omega
  have:=Nat.mul_le_mul_right (n₂+1) h1
  rw [Nat.add_mul,Nat.one_mul];omega
 have inj:∀ x∈w,∀ y∈w,((x.1.1+1)*((n₂:Int)+1)+(x.1.2+1))=((y.1.1+1)*((n₂:Int)+1)+(y.1.2+1))->x.1=y.1:=by
  intro x hx y hy h
  obtain ⟨⟨a1,a2⟩,b1,b2⟩:=o.inp x hx
  obtain ⟨⟨c1,c2⟩,d1,d2⟩:=o.inp y hy
  have e1:x.1.1=y.1.1:=by
   rcases Int.lt_trichotomy x.1.1 y.1.1 with h1 | h1 | h1
   ·have h3:(x.1.1+1+1)*((n₂:Int)+1)<=(y.1.1+1)*((n₂:Int)+1):=Int.mul_le_mul_of_nonneg_right (by omega) (by omega)
    rw [Int.add_mul (x.1.1+1) 1] at h3
    omega
   ·exact h1
   ·have h3:(y.1.1+1+1)*((n₂:Int)+1)<=(x.1.1+1)*((n₂:Int)+1):=Int.mul_le_mul_of_nonneg_right (by omega) (by omega)
    rw [Int.add_mul (y.1.1+1) 1] at h3
    omega
  rw [e1] at h
  exact Prod.ext e1 (by omega)
 have nd:(w.map fun x:N4=>((x.1.1+1)*((n₂:Int)+1)+(x.1.2+1))).Nodup:=by
  have h0:=List.pairwise_map.1 o.nd
  refine List.pairwise_map.2 ?_
  refine List.Pairwise.imp_of_mem ?_ h0
  intro a b ha hb hne e
  exact hne (inj a ha b hb e)
 have:=nodup_sub_length nd (fun x hx=>by
  obtain ⟨y,hy,rfl⟩:=List.mem_map.1 hx
  exact cd y hy)
 simp at this
 unfold bigF
 omega
theorem SOk.step {R R':List (List Int)} {L c n:Nat} {w:List N4} (o:SOk R.length R'.length L w) (r:RowsW L R.length R) (r':RowsW L R'.length R') (hc:c < L):SOk R.length R'.length L (stepS R R' n w c):=by
 unfold stepS
 split
 ·exact o
 ·rename_i x hx
  split
  ·exact o
  ·rename_i h
   simp only [not_or] at h
   have hn:=(List.getElem?_eq_some_iff.1 hx).1
   refine ⟨?_,fun y hy=>?_,fun i y hy=>?_,fun y hy=>?_⟩
   ·rw [List.map_append,List.nodup_append]
    exact ⟨o.nd,by simp,fun a ha b hb e=>by simp at hb;subst hb;subst e;exact h.2 ha⟩
   ·rcases List.mem_append.1 hy with h1 | h1
    ·exact o.inp y h1
    ·simp at h1;rw [h1];exact stepP_in r r' _ _
   ·by_cases hi:i < w.length
    ·rw [List.getElem?_append_left hi] at hy;exact o.fr i y hy
    ·rw [List.getElem?_append_right (by omega)] at hy
     have h0:=(List.getElem?_eq_some_iff.1 hy).1
     simp at h0
     have:i - w.length=0:=by omega
     rw [this] at hy
     simp at hy
     rw [<-hy];simp only;omega
   ·rcases List.mem_append.1 hy with h1 | h1
    ·exact o.by_ y h1
    ·simp at h1;rw [h1];simp only;omega
theorem rowSS_snoc (R R':List (List Int)) (n:Nat) (ks:List Nat) (w:List N4) (c:Nat):rowSS R R' n (ks++[c]) w=stepS R R' n (rowSS R R' n ks w) c:=by simp [rowSS,List.foldl_append]
theorem SOk.row {R R':List (List Int)} {L n:Nat} (r:RowsW L R.length R) (r':RowsW L R'.length R'):∀ (ks:List Nat) {w:List N4},(∀ c∈ks,c < L)->SOk R.length R'.length L w->SOk R.length R'.length L (rowSS R R' n ks w)
 | [],_,_,o=>o
 | c :: ks,w,h,o=>SOk.row r r' ks (fun x hx=>h x (by simp [hx])) (o.step r r' (h c (by simp)))
theorem stepS_get {R R':List (List Int)} {n c i:Nat} {w:List N4} (hi:i < w.length):(stepS R R' n w c)[i]?=w[i]?:=by
 unfold stepS
 split
 ·rfl
 ·split
  ·rfl
  ·rw [List.getElem?_append_left hi]
theorem stepS_len (R R':List (List Int)) (n c:Nat) (w:List N4):w.length<=(stepS R R' n w c).length:=by
 unfold stepS
 split
 ·exact Nat.le_refl _
 ·split
  ·exact Nat.le_refl _
  ·simp
theorem rowSS_get {R R':List (List Int)} {n i:Nat}:∀ (ks:List Nat) {w:List N4},i < w.length->(rowSS R R' n ks w)[i]?=w[i]?/\w.length<=(rowSS R R' n ks w).length
 | [],w,_=>⟨rfl,Nat.le_refl _⟩
 | c :: ks,w,h=>by
  have h1:=stepS_len R R' n c w
  obtain ⟨e,l⟩:=rowSS_get (R:=R) (R':=R') (n:=n) (i:=i) ks (w:=stepS R R' n w c) (by omega)
  exact ⟨e.trans (stepS_get h),Nat.le_trans h1 l⟩
theorem begS_ok {n₁ n₂ L:Nat} (h1:1<=n₁) (h2:1<=n₂) (hL:1<=L):SOk n₁ n₂ L [((0,0),-1,0)]:=by
 refine ⟨by simp,fun x hx=>?_,fun i x hx=>?_,fun x hx=>?_⟩
 ·simp at hx;rw [hx];exact ⟨⟨by simp,by simp;omega⟩,⟨by simp,by simp;omega⟩⟩
 ·have hi:=(List.getElem?_eq_some_iff.1 hx).1
  simp at hi;subst hi;simp at hx;rw [<-hx];simp
 ·simp at hx;rw [hx];simp;omega
def encR (r:Int):List UInt8:=(Utf8.encode r).data.toList
def wordS (sy:List Int) (b:List Int):List UInt8:=(b.reverse.map fun c=>encR (sy.getD c.toNat 0)).flatten
noncomputable def sameX (A:PAlpha) (X Y:PAuto):Bool×List UInt8×Int :=
 if bothE A X Y≠0 then (false,[],bothE A X Y) else
  ((
   sameS (mR A X) (mR A Y) (mE A X) (mE A Y) A.letters.length (bigF (mR A X).length (mR A Y).length) 0 [((0,0),-1,0)]).1,
   wordS A.sy (sameS (mR A X) (mR A Y) (mE A X) (mE A Y) A.letters.length (bigF (mR A X).length (mR A Y).length) 0 [((0,0),-1,0)]).2.1,
   (sameS (mR A X) (mR A Y) (mE A X) (mE A Y) A.letters.length (bigF (mR A X).length (mR A Y).length) 0 [((0,0),-1,0)]).2.2)
theorem runesOf_rI:∀ rs:List Int,runesOf (rs.map rI)=some (rs.map encR).flatten
 | []=>rfl
 | r :: rs=>by
  show bi (sameK .i32 .i32) (ob (runesOf (rs.map rI)) fun s=>some (encR r++s)) none=_
  rw [sameK_self,bi_true,runesOf_rI rs,ob_some,List.map_cons,List.flatten_cons]
end Go.Ab.Z
namespace Go.Ab.Z
open Go Go.Ab
variable {h h':AHeap} {k:Post} {fe le en mo en' mo':AVal} {A:PAlpha} {X Y:PAuto}
def eU:Unit->AVal:=fun _=>.agg []
theorem kd76U:Kd K2 Unit K76 e76 eU:=⟨kd76.fit,kd76.ptr,kd76.eq⟩
def c4 (x:N4):List AVal:=[.int .i64 x.1.1,.int .i64 x.1.2,.int .i64 x.2.1,.int .i64 x.2.2]
structure MemS (h₀ h:AHeap) (mb:Nat) (wv:AVal) (mp:List (K2×Unit)) (w:List N4):Prop where
 wf:WF h
 hle:Hle h₀ h
 map:MapOf K76 e76 eU h mb mp
 met:∀ q,aget mp q=none↔q∉w.map (·.1)
 work:ORow h 4 wv w.length (w.map c4).flatten
 gm:h₀.next<=mb
 gw:∀ j∈blkOf wv,h₀.next<=j/\j≠mb
section
variable {h₀:AHeap} {mb:Nat} {wv:AVal} {w:List N4} {mp:List (K2×Unit)}
theorem MemS.mono (M:MemS h₀ h mb wv mp w) (w':WF h') (l:Hle h h'):MemS h₀ h' mb wv mp w:=⟨w',M.hle.trans l,M.map.mono l,M.met,M.work.mono l,M.gm,M.gw⟩
theorem MemS.lts (M:MemS h₀ h mb wv mp w):mb < h.next/\∀ j∈blkOf wv,j < h.next:=⟨M.map.lt M.wf,own_lt M.work M.wf⟩
theorem MemS.but (M:MemS h₀ h mb wv mp w) (w₀:WF h₀) {b:Nat} (bt:But b h h') (hb:b < h.next) (h0:h₀.next<=b) (h1:b≠mb) (h2:b∉blkOf wv):MemS h₀ h' mb wv mp w :=
 ⟨bt.wf M.wf hb,bt.hle M.hle w₀ h0,MapOf.kp' M.map (But.kp bt h1.symm),M.met,own_kp M.work fun j hj=>But.kp bt fun e=>h2 (e ▸ hj),M.gm,M.gw⟩
theorem MemS.row (M:MemS h₀ h mb wv mp w):Row h 4 wv (w.map c4):=M.work.row (by intro l hl;obtain ⟨s,_,rfl⟩:=List.mem_map.1 hl;rfl) (by simp) rfl
theorem MemS.at (M:MemS h₀ h mb wv mp w) {n:Nat} (hn:n < w.length):indexAddrS 4 wv (.int .i64 (n:Int))=some (.ptr (rowB wv) (n*4))/\h.read (rowB wv) (n*4) 2=some (e2 w[n].1)/\h.read1 (rowB wv) (n*4+2)=some (.int .i64 w[n].2.1)/\h.read1 (rowB wv) (n*4+3)=some (.int .i64 w[n].2.2):=by
 have r:=M.row
 have i1:=M.work.idx hn .i64
 have ro:rowO wv=0:=by
  obtain ⟨_,⟨rfl,_⟩ | ⟨b,cap,rest,rfl,_⟩⟩:=M.work<;>rfl
 have hg:(w.map c4)[n]?=some (c4 w[n]):=by simp [hn]
 have q0:=r.rd1 (i:=n) (f:=0) hg (c:=.int .i64 w[n].1.1) rfl
 have q1:=r.rd1 (i:=n) (f:=1) hg (c:=.int .i64 w[n].1.2) rfl
 have q2:=r.rd1 (i:=n) (f:=2) hg (c:=.int .i64 w[n].2.1) rfl
 have q3:=r.rd1 (i:=n) (f:=3) hg (c:=.int .i64 w[n].2.2) rfl
 have qq:=r.rd (i:=n) hg
 rw [ro,Nat.zero_add] at q2 q3 qq
 refine ⟨i1,?_,q2,q3⟩
 unfold AHeap.read at qq ⊢
 cases hb:h.get (rowB wv) with
 | none=>rw [hb] at qq;cases qq
 | some x =>
  rw [hb] at qq
  simp only [ob_some] at qq ⊢
  cases x with
  | cells sz a m =>
   simp only [onCells_c,nble,bi_eq] at qq ⊢
   split at qq
   ·rename_i hle
    simp only [decide_eq_true_eq] at hle
    rw [if_pos (by simp;omega)]
    have rc:∀ (m:Nat) (i:Nat) (l:List AVal),readCells a (m+2) i=some l->readCells a 2 i=some (l.take 2):=by
     intro m i l hl
     change ob (a.get (path i)) (fun v=>ob (ob (a.get (path (i+1))) fun v=>ob (readCells a m (i+1+1)) fun vs=>some (v :: vs)) fun vs=>some (v :: vs))=some l at hl
     change ob (a.get (path i)) (fun v=>ob (ob (a.get (path (i+1))) fun v=>some [v]) fun vs=>some (v :: vs))=_
     obtain ⟨v,e1,hl⟩:=ob_eq.1 hl
     obtain ⟨vs,e2,hl⟩:=ob_eq.1 hl
     obtain ⟨u,e3,e2⟩:=ob_eq.1 e2
     obtain ⟨us,e4,e2⟩:=ob_eq.1 e2
     cases e2;cases hl
     rw [e1,ob_some,e3,ob_some,ob_some];rfl
    rw [rc 2 _ _ qq];rfl
   ·cases qq
  | map kt es c=>cases qq
  | siter a b=>cases qq
  | miter a b c d=>cases qq
theorem MemS.upd (M:MemS h₀ h mb wv mp w) (w₀:WF h₀) (q:K2):∃ h2,updateA K76 (.map mb) (e76 q) (.agg []) h=some (none,h2)/\But mb h h2/\WF h2/\Hle h₀ h2/\MapOf K76 e76 eU h2 mb (aput mp q ())/\ORow h2 4 wv w.length (w.map c4).flatten:=by
 obtain ⟨h2,a1,a2,a3⟩:=M.map.update kd76U q ()
 exact ⟨h2,a1,a3,a3.wf M.wf M.lts.1,a3.hle M.hle w₀ M.gm,a2,own_kp M.work fun j hj=>But.kp a3 (M.gw j hj).2⟩
theorem MemS.push (M:MemS h₀ h mb wv mp w) (w₀:WF h₀) (x:N4) (hn:w.length < 60000000):∃ h2 h3,updateA K76 (.map mb) (e76 x.1) (.agg []) h=some (none,h2)/\But mb h h2 /\
  appendA (h2.newCells (c4 x)) 4 wv (.slice h2.next 0 1 1 4)=some (some (.slice (h2.next+1) 0 (w.length+1) (w.length+1) 4),h3) /\
  MemS h₀ h3 mb (.slice (h2.next+1) 0 (w.length+1) (w.length+1) 4) (aput mp x.1 ()) (w++[x])/\(∀ j,j≠mb->j∉blkOf wv->Kp h h3 j)/\h2.next=h.next/\h3.next=h.next+2:=by
 obtain ⟨h2,a1,a2,w2,l2,m2,o2⟩:=M.upd w₀ x.1
 obtain ⟨h3,b1,b2,w3,nx,kp⟩:=orow_push o2 w2 (c4 x) rfl (by omega) rfl
 have hge:=M.hle.next
 have n2:=a2.next
 refine ⟨h2,h3,a1,a2,b1,⟨w3,⟨by omega,fun j y e=>?_⟩,MapOf.kp' m2 (kp mb fun hj=>(M.gw mb hj).2 rfl),fun q=>?_,?_,M.gm,fun j hj=>?_⟩,fun j h1 h2=>Kp.trans (But.kp a2 h1) (kp j h2),n2,by omega⟩
 ·refine kp j (fun hj=>?_) y (l2.get j y e)
  have:=(M.gw j hj).1;have:=w₀.lt e;omega
 ·rw [aget_aput]
  have:=M.met q
  by_cases hq:q=x.1
  ·simp [hq]
  ·rw [if_neg hq,this];simp [hq]
 ·rw [List.length_append,List.length_singleton,List.map_append,List.flatten_append]
  have:(List.map c4 [x]).flatten=c4 x:=by simp
  rw [this];exact b2
 ·simp [blkOf] at hj;subst hj
  have:=M.lts.1
  exact ⟨by omega,by omega⟩
end
end Go.Ab.Z
namespace Go.Ab.Z
open Go Go.Ab
variable {h h':AHeap} {k:Post} {fe le en mo en' mo':AVal} {A:PAlpha} {X Y:PAuto}
theorem conv_runes {v:AVal} {rs:List Int} (o:ORow h 1 v rs.length (rs.map rI)):convA .runesToStr v h=some (some (.str (rs.map encR).flatten),h):=by
 obtain ⟨hl,⟨rfl,e⟩ | ⟨b,cap,rest,rfl,_,r⟩⟩:=o
 ·have:rs=[]:=List.length_eq_zero_iff.1 e
  subst this;rfl
 ·have rd:=r.rd (off:=0) (n:=rs.length) (l:=rs.map rI) (by simp) (by rw [List.drop_zero,List.take_append_of_le_length (by simp),List.take_of_length_le (by simp)])
  show ob (h.read b 0 rs.length) (fun vs=>ob (runesOf vs) fun s=>ret h (.str s))=_
  rw [rd,ob_some,runesOf_rI];rfl
theorem backS_at {w:List N4} {F j:Nat} {x:N4} (hx:w[j]?=some x):backS w (F+1) j=if x.2.1 < 0 then [] else x.2.2 :: backS w F x.2.1.toNat:=by
 conv=>lhs;unfold backS
 rw [hx]
theorem IsAlpha.runeAt (hA:IsAlpha h fe le A) {c:Nat} (hc:c < A.letters.length):indexAddrS 3 le (.int .i64 (c:Int))=some (.ptr (rowB le) (rowO le+c*3))/\h.read1 (rowB le) (rowO le+c*3)=some (.int .i32 (A.sy.getD c 0)):=by
 have a1:=hA.le.idx (i:=c) (by simpa using hc) .i64
 have a2:=hA.le.rd1_0 (i:=c) (l:=A.letters[c].cells) (c:=.int .i32 A.letters[c].rune) (by simp [hc]) rfl
 refine ⟨a1,?_⟩
 rw [a2,List.getD_eq_getElem?_getD,List.getElem?_map,List.getElem?_eq_getElem hc];rfl
set_option maxHeartbeats 2000000 in
theorem f16 (hA:IsAlpha h fe le A) (hX:IsAuto h en mo X) (hY:IsAuto h en' mo' Y)
  (H:∀ h',WF h'->Hle h h'->k (.tup [.bool (sameX A X Y).1,.str (sameX A X Y).2.1,.int .i64 (sameX A X Y).2.2]) h'):Cf 16 [.agg [fe,le],aV X.states en mo,aV Y.states en' mo'] h k:=by
 refine use_code compiled16 fun hw=>?_
 have w1:=hw.newCells [fe,le]
 have le1:=Hle.newCells hw [fe,le]
 have w2:=w1.newCells [.int .i64 X.states,en,mo]
 have le2:=Hle.newCells w1 [.int .i64 X.states,en,mo]
 have w3:=w2.newCells [.int .i64 Y.states,en',mo']
 have le3:=Hle.newCells w2 [.int .i64 Y.states,en',mo']
 have leh:=(le1.trans le2).trans le3
 have va:=((Blk.new h [fe,le]).mono le2).mono le3
 have vx:=(Blk.new (h.newCells [fe,le]) [.int .i64 X.states,en,mo]).mono le3
 have vy:=Blk.new ((h.newCells [fe,le]).newCells [.int .i64 X.states,en,mo]) [.int .i64 Y.states,en',mo']
 simp only [next_newCells] at vx vy
 have ra:=va.rd (off:=0) (n:=2) (l:=[fe,le]) (by simp) rfl
 have rx:=vx.rd (off:=0) (n:=3) (l:=[.int .i64 X.states,en,mo]) (by simp) rfl
 have ry:=vy.rd (off:=0) (n:=3) (l:=[.int .i64 Y.states,en',mo']) (by simp) rfl
 simp [fn16,aV,ra,rx,ry]
 generalize hg0:((h.newCells [fe,le]).newCells [.int .i64 X.states,en,mo]).newCells [.int .i64 Y.states,en',mo']=g0 at *
 clear vx vy ra rx ry w1 w2 le1 le2 le3
 refine f49 (hA.mono leh) (hX.mono leh) (hY.mono leh) (fun hb g1 m mm wg l1 vm vn=>?_) (fun hb g1 v u wg l1 pv pu=>?_)
 rotate_left
 ·have hs:sameX A X Y=(false,[],bothE A X Y):=by unfold sameX;rw [if_pos hb]
  rw [hs] at H
  have d:decide (bothE A X Y=0)=false:=decide_eq_false hb
  simp
  simp only [d]
  simp
  exact fun w=>H g1 w (leh.trans l1)
 obtain ⟨ha,hx,hy,k1,k2⟩:=bothE_zero hb
 have hL1:=ha.1.2.1
 have hL:=ha.1.2.2
 have p1:=mR_pos k1
 have p2:=mR_pos k2
 have rw1:=mR_w A X
 have rw2:=mR_w A Y
 have el1:=mE_len A X
 have el2:=mE_len A Y
 have bg:bigF (mR A X).length (mR A Y).length < 60000000:=by
  unfold bigF
  have:((mR A X).length+1)*((mR A Y).length+1)<=4097*4097:=Nat.mul_le_mul (by omega) (by omega)
  omega
 have hs:sameX A X Y=((sameS (mR A X) (mR A Y) (mE A X) (mE A Y) A.letters.length (bigF (mR A X).length (mR A Y).length) 0 [((0,0),-1,0)]).1,
   wordS A.sy (sameS (mR A X) (mR A Y) (mE A X) (mE A Y) A.letters.length (bigF (mR A X).length (mR A Y).length) 0 [((0,0),-1,0)]).2.1,
   (sameS (mR A X) (mR A Y) (mE A X) (mE A Y) A.letters.length (bigF (mR A X).length (mR A Y).length) 0 [((0,0),-1,0)]).2.2):=by unfold sameX;rw [if_neg (by simp [hb])]
 rw [hs] at H
 clear hs hb
 generalize mR A X=R at *
 generalize mR A Y=R' at *
 generalize mE A X=E at *
 generalize mE A Y=E' at *
 have so:SOk R.length R'.length A.letters.length [((0,0),-1,0)]:=begS_ok p1.1 p2.1 hL1
 have lA:=leh.trans l1
 have hA1:=hA.mono lA
 have va1:=va.mono l1
 have wA:=wg.newCells [.int .i64 0,.int .i64 0,.int .i64 (-1),.int .i64 0]
 have lB:=Hle.newCells wg [.int .i64 0,.int .i64 0,.int .i64 (-1),.int .i64 0]
 have wB:=wA.new (.map 76 [] 0)
 have lC:=lB.trans (Hle.new wA (.map 76 [] 0))
 obtain ⟨g2,u1,u2,u3⟩:=(MapOf.new (K:=K76) (ek:=e76) (ev:=eU) (g1.newCells [.int .i64 0,.int .i64 0,.int .i64 (-1),.int .i64 0])).update kd76U (0,0) ()
 simp only [next_newCells] at u1 u2 u3
 have C0:MemS g1 g2 (g1.next+1) (.slice g1.next 0 1 1 4) [((0,0),())] [((0,0),-1,0)]:=by
  refine ⟨u3.wf wB (by simp),u3.hle lC wg (by omega),u2,fun q=>by simp [aget],?_,by omega,fun j hj=>by simp [blkOf] at hj;omega⟩
  have f:=(ORow.fresh g1 (sz:=4) (n:=1) (cs:=[.int .i64 0,.int .i64 0,.int .i64 (-1),.int .i64 0]) rfl).mono (Hle.new wA (.map 76 [] 0))
  exact own_kp f fun j hj=>But.kp u3 (by simp [blkOf] at hj;omega)
 have u1:updateA ⟨76,true,[.int .i64,.int .i64]⟩ (.map (g1.next+1)) (.agg [.int .i64 0,.int .i64 0]) (.agg []) ((g1.newCells [.int .i64 0,.int .i64 0,.int .i64 (-1),.int .i64 0]).new (.map 76 [] 0))=some (none,g2):=u1
 simp [listPut,u1]
 clear u1 u2 u3 wA wB lB lC
 generalize hans:sameS R R' E E' A.letters.length (bigF R.length R'.length) 0 [((0,0),-1,0)]=ans at *
 rw [L16_1]
 refine loop_by (σ:=AVal×Nat) (fun s h'=>∃ w mp,MemS g1 h' (g1.next+1) s.1 mp w/\SOk R.length R'.length A.letters.length w/\s.2<=w.length/\sameS R R' E E' A.letters.length (bigF R.length R'.length - s.2) s.2 w=ans)
  (fun s=>[(3,.ptr h.next 0),(9,.ptr m 0),(10,.ptr mm 0),(12,s.1),(13,.map (g1.next+1)),(14,.int .i64 s.2)]) (fun s=>bigF R.length R'.length - s.2) (.slice g1.next 0 1 1 4,0) (by simp) ?_ ?_
 ·exact ⟨_,_,C0,so,Nat.zero_le _,hans⟩
 clear C0 so hans
 rintro ⟨wv,n⟩ h4 K ⟨w,mp,C,so,hn,hrun⟩ hK
 simp only at C hn hrun hK
 have wl:=C.work.len
 have wle:=so.le
 simp [wl]
 refine ap_split (fun hd=>?_) (fun hd=>?_)
 rotate_left
 ·have:n=w.length:=by omega
  subst this
  have ha:ans=(true,[],0):=by
   rw [<-hrun,show bigF R.length R'.length - w.length=(bigF R.length R'.length - w.length - 1)+1 by omega]
   unfold sameS
   rw [List.getElem?_eq_none (Nat.le_refl _)]
  rw [ha] at H
  simp
  intro w'
  exact H h4 w' (lA.trans C.hle)
 have hd:n < w.length:=by omega
 obtain ⟨i1,i2,i3,i4⟩:=C.at hd
 have wn:w[n]?=some w[n]:=List.getElem?_eq_getElem hd
 have hrun':(if endG E w[n].1.1≠endG E' w[n].1.2 then (if 256 < (backS w w.length n).length then (false,[],9) else (false,backS w w.length n,0))
   else sameS R R' E E' A.letters.length (bigF R.length R'.length - (n+1)) (n+1) (rowSS R R' n (List.range A.letters.length) w))=ans:=by
  rw [<-hrun,show bigF R.length R'.length - n=(bigF R.length R'.length - (n+1))+1 by omega]
  conv=>rhs;unfold sameS
  rw [wn]
 clear hrun
 have inp:=so.inp w[n] (List.getElem_mem hd)
 have wD:=C.wf.newCells [.int .i64 0,.int .i64 0]
 have lD:=Hle.newCells C.wf [.int .i64 0,.int .i64 0]
 obtain ⟨h5,c1,c2,c3⟩:=(Blk.new h4 [.int .i64 0,.int .i64 0]).write (off:=0) (vs:=e2 w[n].1) (by simp [e2]) rfl
 have lE:=c3.hle lD C.wf (Nat.le_refl _)
 have wE:=c3.wf wD (by simp)
 have c2:Blk h5 h4.next (e2 w[n].1):=by simpa [e2] using c2
 have c1:(h4.newCells [.int .i64 0,.int .i64 0]).write h4.next 0 [.int .i64 w[n].1.1,.int .i64 w[n].1.2]=some h5:=c1
 have C5:=C.mono wE lE
 have l15:=C5.hle
 have d0:=c2.rd1 (i:=0) (c:=.int .i64 w[n].1.1) rfl
 have d1:=c2.rd1 (i:=1) (c:=.int .i64 w[n].1.2) rfl
 simp only [e2] at i2
 simp [i1,i2,c1,indexAddrA,d0,d1]
 refine f50 (vm.mono l15) (by rw [el1];exact inp.1) fun w'=>?_
 simp [d1,sameV,same1]
 refine f50 (vn.mono l15) (by rw [el2];exact inp.2) fun w'=>?_
 clear w'
 simp
 by_cases hne:endG E w[n].1.1=endG E' w[n].1.2
 rotate_left
 ·
  rw [if_pos hne] at hrun'
  have dn:(endG E w[n].1.1 == endG E' w[n].1.2)=false:=by simp [hne]
  simp only [dn]
  simp
  rw [L16_2]
  have va5:=va1.mono l15
  have hA5:=hA1.mono l15
  have nx5:g0.next<=h5.next:=by have:=(l1.trans l15).next;exact this
  refine loop_by (σ:=AVal×Nat×Nat×List Int) (fun s h'=>WF h'/\Hle h5 h'/\ORow h' 1 s.1 s.2.2.2.length ((s.2.2.2.map fun c=>A.sy.getD c.toNat 0).map rI)/\(∀ j∈blkOf s.1,h5.next<=j)/\s.2.1 < w.length/\s.2.1 < s.2.2.1/\s.2.2.2.length+s.2.1<=n/\s.2.2.2++backS w s.2.2.1 s.2.1=backS w w.length n)
   (fun s=>[(3,.ptr h.next 0),(12,wv),(16,s.1),(17,.int .i64 s.2.1)]) (fun s=>s.2.1) (.nils,n,w.length,[]) (by simp) ?_ ?_
  ·exact ⟨wE,Hle.refl _,ORow.nil _ _,fun j hj=>(by cases hj),hd,hd,by simp,rfl⟩
  rintro ⟨av,j,F,bs⟩ h6 K2 ⟨w6,l6,oa,ga,hj,hjF,hlen,htot⟩ hK2
  simp only at oa ga hj hjF hlen htot hK2
  obtain ⟨F',rfl⟩:∃ F',F=F'+1:=⟨F - 1,by omega⟩
  have C6:=C5.mono w6 l6
  obtain ⟨j1,j2,j3,j4⟩:=C6.at hj
  have wj:w[j]?=some w[j]:=List.getElem?_eq_getElem hj
  have fr:=so.fr j _ wj
  have by_:=so.by_ _ (List.getElem_mem hj)
  rw [backS_at wj] at htot
  simp [j1,j3]
  by_cases hf:w[j].2.1 < 0
  rotate_left
  ·rw [if_neg hf] at htot
   have df:decide (w[j].2.1 < 0)=false:=decide_eq_false hf
   obtain ⟨c,hc⟩:=Int.eq_ofNat_of_zero_le by_.1
   obtain ⟨b,hbk⟩:=Int.eq_ofNat_of_zero_le (by omega:0<=w[j].2.1)
   have hcl:c < A.letters.length:=by omega
   obtain ⟨q1,q2⟩:=(hA5.mono l6).runeAt hcl
   have vl:=(va5.mono l6).rd1 (i:=1) (c:=le) rfl
   have j4':=j4
   rw [hc] at j4'
   simp only [df]
   simp [vl,j1,j4',q1,q2,listPut]
   obtain ⟨h7,a1,a2,a3,a4,kp⟩:=orow_push oa w6 [rI (A.sy.getD c 0)] rfl (by omega) rfl
   have a1:appendA (h6.newCells [.int .i32 (A.sy.getD c 0)]) 1 av (.slice h6.next 0 1 1 1)=some (some (.slice (h6.next+1) 0 (bs.length+1) (bs.length+1) 1),h7):=a1
   have l7:Hle h5 h7:=⟨by have:=l6.next;omega,fun x y e=>kp x (fun hx=>by have:=ga x hx;have:=wE.lt e;omega) y (l6.get x y e)⟩
   obtain ⟨j1',j2',j3',j4'⟩:=(C5.mono a3 l7).at hj
   rw [hbk] at j3'
   have a1':=a1
   simp at a1'
   simp [a1',j1',j3']
   refine hK2 (.slice (h6.next+1) 0 (bs.length+1) (bs.length+1) 1,b,F',bs++[w[j].2.2]) _ _ (by simp;omega) (by simp) ⟨a3,l7,?_,fun x hx=>?_,by simp;omega,by simp;omega,by simp;omega,?_⟩
   ·simp only [List.length_append,List.length_singleton,List.map_append]
    rw [hc]
    exact a2
   ·simp [blkOf] at hx;have:=l6.next;omega
   ·simp only
    rw [<-htot,hbk]
    simp
  ·rw [if_pos hf,List.append_nil] at htot
   have df:decide (w[j].2.1 < 0)=true:=decide_eq_true hf
   simp only [df]
   have al:=oa.len
   simp [al]
   refine ap_split (fun hz=>?_) (fun hz=>?_)
   ·rw [<-htot,if_pos (by omega)] at hrun'
    rw [<-hrun'] at H
    simp
    exact fun w'=>H h6 w' (lA.trans (l15.trans l6))
   ·rw [<-htot,if_neg (by omega)] at hrun'
    rw [<-hrun'] at H
    simp
    have oa':ORow h6 1 av (bs.map fun c=>A.sy.getD c.toNat 0).length ((bs.map fun c=>A.sy.getD c.toNat 0).map rI):=by simpa using oa
    refine f51 oa' (by simp;omega) fun h7 w7 nx7 kp7 o7=>?_
    have cv:=conv_runes (rs:=(bs.map fun c=>A.sy.getD c.toNat 0).reverse) (by simpa using o7)
    simp [cv]
    intro w'
    have l7:Hle h5 h7:=⟨by have:=l6.next;omega,fun x y e=>kp7 x (fun hx=>by have:=ga x hx;have:=wE.lt e;omega) y (l6.get x y e)⟩
    refine kcast (H h7 w' (lA.trans (l15.trans l7))) ?_
    unfold wordS
    simp
    rfl
 ·
  rw [if_neg (by simp [hne])] at hrun'
  have dn:(endG E w[n].1.1 == endG E' w[n].1.2)=true:=by simp [hne]
  simp only [dn]
  simp
  have fr:=(va1.mono l15).rd1 (i:=1) (c:=le) rfl
  have alen:=hA.llen
  simp [fr,alen]
  rw [L16_3]
  have wnl:=so.le
  refine loop_by (σ:=AVal×Nat) (fun s h'=>∃ w' mp',w'=rowSS R R' n (List.range s.2) w/\MemS g1 h' (g1.next+1) s.1 mp' w'/\SOk R.length R'.length A.letters.length w'/\Blk h' h4.next (e2 w[n].1)/\h4.next∉blkOf s.1/\s.2<=A.letters.length)
   (fun s=>[(3,.ptr h.next 0),(9,.ptr m 0),(10,.ptr mm 0),(12,s.1),(13,.map (g1.next+1)),(14,.int .i64 n),(15,.ptr h4.next 0),(93,.int .i64 A.letters.length),(94,.int .i64 s.2)]) (fun s=>A.letters.length - s.2) (wv,0) (by simp) ?_ ?_
  ·exact ⟨w,mp,rfl,C5,so,c2,fun hj=>by have:=C.lts.2 _ hj;omega,Nat.zero_le _⟩
  have h41:g1.next+1 < h4.next:=C.lts.1
  clear C5 c1 c2 c3 lD lE wD wE d0 d1 i1 i2 i3 i4 l15 wl fr
  rintro ⟨wv',c⟩ h6 K2 ⟨w',mp',hw',C6,so',b15,nb15,hcl⟩ hK2
  simp only at hw' C6 nb15 hcl hK2
  simp
  refine ap_split (fun hq=>?_) (fun hq=>?_)
  ·have hq:c < A.letters.length:=by omega
   have l16:=C6.hle
   have lt6:=b15.lt C6.wf
   have d0:=b15.rd1 (i:=0) (c:=.int .i64 w[n].1.1) rfl
   have d1:=b15.rd1 (i:=1) (c:=.int .i64 w[n].1.2) rfl
   have hsn:rowSS R R' n (List.range (c+1)) w=stepS R R' n w' c:=by rw [List.range_succ,rowSS_snoc,<-hw']
   have hget:w'[n]?=some w[n]:=by rw [hw',(rowSS_get (R:=R) (R':=R') (n:=n) (List.range c) hd).1,wn]
   have hst:stepS R R' n w' c=if ((stepP R R' w[n].1 c).1 < 0/\(stepP R R' w[n].1 c).2 < 0)\/stepP R R' w[n].1 c∈w'.map (·.1) then w' else w'++[(stepP R R' w[n].1 c,(n:Int),(c:Int))]:=by
    conv=>lhs;unfold stepS
    rw [hget]
   have so2:=so'.step (n:=n) rw1 rw2 hq
   rw [hst] at hsn so2
   have wr:wrapF .i64 ((c:Int)+1)=(c:Int)+1:=wrap64 (by omega) (by omega)
   simp [indexAddrA,d0,d1]
   refine f52 (vm.mono l16) inp.1 rw1.len hq fun ww=>?_
   simp [d1,sameV,same1]
   refine f52 (vn.mono l16) inp.2 rw2.len hq fun ww=>?_
   generalize hqq:stepP R R' w[n].1 c=q at *
   have hq1:stepG R w[n].1.1 c=q.1:=by rw [<-hqq];rfl
   have hq2:stepG R' w[n].1.2 c=q.2:=by rw [<-hqq];rfl
   rw [hq1,hq2]
   have wD:=C6.wf.newCells [.int .i64 0,.int .i64 0]
   have lD:=Hle.newCells C6.wf [.int .i64 0,.int .i64 0]
   obtain ⟨h7,c1,c2,c3⟩:=(Blk.new h6 [.int .i64 0,.int .i64 0]).write (off:=0) (vs:=e2 q) (by simp [e2]) rfl
   have l7:=c3.hle lD C6.wf (Nat.le_refl _)
   have w7:=c3.wf wD (by simp)
   have c2:Blk h7 h6.next (e2 q):=by simpa [e2] using c2
   have c1:(h6.newCells [.int .i64 0,.int .i64 0]).write h6.next 0 [.int .i64 q.1,.int .i64 q.2]=some h7:=c1
   have n7:h7.next=h6.next+1:=by rw [c3.next];simp
   have C7:=C6.mono w7 l7
   have b7:=b15.mono l7
   have d0':=(b15.mono lD).rd1 (i:=0) (c:=.int .i64 w[n].1.1) rfl
   have d1':=(b15.mono lD).rd1 (i:=1) (c:=.int .i64 w[n].1.2) rfl
   have r7:=pair_rd c2
   simp only [e2] at r7
   have lk:=C7.map.lookup kd76U q (.agg []) true
   have lk:lookupA ⟨76,true,[.int .i64,.int .i64]⟩ (.agg []) true (.map (g1.next+1)) (.agg [.int .i64 q.1,.int .i64 q.2]) h7=found (.agg []) true ((aget mp' q).map eU):=lk
   have wD2:=w7.newCells []
   have lD2:=Hle.newCells w7 []
   obtain ⟨h8,y1,y2,y3⟩:=(Blk.new h7 []).write (off:=0) (vs:=[]) (by simp) rfl
   have l8:=y3.hle lD2 w7 (Nat.le_refl _)
   have w8:=y3.wf wD2 (by simp)
   have n8:h8.next=h6.next+2:=by rw [y3.next];simp [n7]
   have C8:=C7.mono w8 l8
   have b8:=b7.mono l8
   have c8:=c2.mono l8
   have t0:=c8.rd1 (i:=0) (c:=.int .i64 q.1) rfl
   have t1:=c8.rd1 (i:=1) (c:=.int .i64 q.2) rfl
   have r8:=pair_rd c8
   simp only [e2] at r8
   have met:=C8.met q
   cases hm:aget mp' q with
   | some u =>
    have hin:q∈w'.map (·.1):=by
     apply Decidable.byContradiction
     intro hni
     rw [met.2 hni] at hm;cases hm
    rw [if_pos (.inr hin)] at hsn so2
    rw [hm] at lk
    have lk:lookupA ⟨76,true,[.int .i64,.int .i64]⟩ (.agg []) true (.map (g1.next+1)) (.agg [.int .i64 q.1,.int .i64 q.2]) h7=some (.tup [.agg [],.bool true]):=lk
    simp [listPut,d0',d1',sameV,same1,c1,r7,lk,y1,wr]
    refine hK2 (wv',c+1) _ _ (by simp;omega) (by simp) ⟨w',mp',?_,C8,so',b8,nb15,by simp;omega⟩
    exact hsn.symm
   | none =>
    have hni:q∉w'.map (·.1):=met.1 hm
    rw [hm] at lk
    have lk:lookupA ⟨76,true,[.int .i64,.int .i64]⟩ (.agg []) true (.map (g1.next+1)) (.agg [.int .i64 q.1,.int .i64 q.2]) h7=some (.tup [.agg [],.bool false]):=lk
    simp [listPut,d0',d1',sameV,same1,c1,r7,lk,y1,t0,indexAddrA]
    have wle':=so'.le
    have more:¬ (q.1 < 0/\q.2 < 0)->∃ h9 h10,updateA ⟨76,true,[.int .i64,.int .i64]⟩ (.map (g1.next+1)) (.agg [.int .i64 q.1,.int .i64 q.2]) (.agg []) h8=some (none,h9)/\h9.read h6.next 0 2=some [.int .i64 q.1,.int .i64 q.2] /\
      appendA (h9.newCells [.int .i64 q.1,.int .i64 q.2,.int .i64 n,.int .i64 c]) 4 wv' (.slice h9.next 0 1 1 4)=some (some (.slice (h9.next+1) 0 (w'.length+1) (w'.length+1) 4),h10) /\
      ∃ w'' mp'',w''=rowSS R R' n (List.range (c+1)) w/\MemS g1 h10 (g1.next+1) (.slice (h9.next+1) 0 (w'.length+1) (w'.length+1) 4) mp'' w''/\SOk R.length R'.length A.letters.length w''/\Blk h10 h4.next (e2 w[n].1)/\h4.next∉blkOf (.slice (h9.next+1) 0 (w'.length+1) (w'.length+1) 4):=by
     intro hz
     rw [if_neg (by simp only [not_or];exact ⟨hz,hni⟩)] at hsn so2
     obtain ⟨h9,h10,z1,z2,z3,z4,z5,z6,z7⟩:=C8.push wg (q,(n:Int),(c:Int)) (by omega)
     have c9:=Blk.kp c8 (But.kp z2 (by omega))
     have r9:=pair_rd c9
     simp only [e2] at r9
     refine ⟨h9,h10,z1,r9,z3,_,_,hsn.symm,z4,so2,Blk.kp b8 (z5 _ (by omega) nb15),?_⟩
     simp [blkOf];omega
    by_cases hp1:q.1 < 0
    ·have e1:decide (q.1 < 0)=true:=decide_eq_true hp1
     simp only [e1]
     simp [t1,indexAddrA]
     by_cases hp2:q.2 < 0
     ·have e2':decide (q.2 < 0)=true:=decide_eq_true hp2
      rw [if_pos (.inl ⟨hp1,hp2⟩)] at hsn so2
      simp only [e2']
      simp [wr]
      refine hK2 (wv',c+1) _ _ (by simp;omega) (by simp) ⟨w',mp',hsn.symm,C8,so',b8,nb15,by simp;omega⟩
     ·have e2':decide (q.2 < 0)=false:=decide_eq_false hp2
      obtain ⟨h9,h10,z1,z2,z3,w'',mp'',z4,z5,z6,z7,z8⟩:=more fun h=>hp2 h.2
      simp only [e2']
      simp [r8,z1,z2,z3,listPut,wr]
      exact hK2 (.slice (h9.next+1) 0 (w'.length+1) (w'.length+1) 4,c+1) _ _ (by simp;omega) (by simp) ⟨w'',mp'',z4,z5,z6,z7,z8,by simp;omega⟩
    ·have e1:decide (q.1 < 0)=false:=decide_eq_false hp1
     obtain ⟨h9,h10,z1,z2,z3,w'',mp'',z4,z5,z6,z7,z8⟩:=more fun h=>hp1 h.1
     simp only [e1]
     simp [r8,z1,z2,z3,listPut,wr]
     exact hK2 (.slice (h9.next+1) 0 (w'.length+1) (w'.length+1) 4,c+1) _ _ (by simp;omega) (by simp) ⟨w'',mp'',z4,z5,z6,z7,z8,by simp;omega⟩
  ·have:c=A.letters.length:=by omega
   subst this
   have wr:wrapF .i64 ((n:Int)+1)=(n:Int)+1:=wrap64 (by omega) (by omega)
   simp [wr]
   have hle:=(rowSS_get (R:=R) (R':=R') (n:=n) (List.range A.letters.length) hd).2
   refine hK (wv',n+1) _ _ (by simp;omega) (by simp) ⟨w',mp',C6,so',by simp only;rw [hw'];omega,?_⟩
   rw [hw'];exact hrun'
end Go.Ab.Z
namespace Go.Ab.Z
open Go Go.Ab
variable {h h':AHeap} {k:Post} {fe le en mo:AVal} {A:PAlpha} {X:PAuto}
theorem row_kp {sz:Nat} {v:AVal} {ls:List (List AVal)} (r:Row h sz v ls) (kp:∀ j∈blkOf v,Kp h h' j):Row h' sz v ls:=by
 refine ⟨r.1,r.2.imp id fun ⟨b,off,cap,e1,e2,n,a,m,g,q⟩=>⟨b,off,cap,e1,e2,n,a,m,kp b (by rw [e1];simp [blkOf]) _ g,q⟩⟩
theorem row_lt {sz:Nat} {v:AVal} {ls:List (List AVal)} (r:Row h sz v ls) (w:WF h):∀ j∈blkOf v,j < h.next:=by
 obtain ⟨_,⟨rfl,_⟩ | ⟨b,off,cap,rfl,_,n,a,m,g,_⟩⟩:=r
 ·intro j hj;cases hj
 ·intro j hj;simp [blkOf] at hj;subst hj;exact w.lt g
theorem row_one {sz:Nat} {v:AVal} {ls:List (List AVal)} (r:Row h sz v ls):oneA v=true:=by
 obtain ⟨_,⟨rfl,_⟩ | ⟨b,off,cap,rfl,_⟩⟩:=r<;>rfl
abbrev KL:Type:=List Int
def okL (l:KL):Prop:=∀ x∈l,-1<=x/\x < 65000
def ownR (b mb:Nat) (lv tv ev:AVal) (rb:List Nat):List Nat:=b :: mb :: (blkOf lv++(blkOf tv++(blkOf ev++rb)))
structure RefR (h:AHeap) (b L:Nat) (s:BS KL) (E:List Bool) (lots:Bool) (mp:List (List UInt8×Int)) (mb:Nat) (lv tv ev:AVal) (rb:List Nat) (vs:List AVal):Prop where
 box:Blk h b [.map mb,lv,tv,ev,.int .i64 (s.st:Int),.bool lots]
 map:MapOf K9 .str vI h mb mp
 met:MapS mp (s.w.map keyBytes) 1
 list:ORow h 1 lv s.w.length vs
 to:ORow h 1 tv s.w.length (rb.map (rowS L))
 en:ORow h 1 ev s.w.length (E.map .bool)
 elems:∀ (i:Nat) (v:AVal) (l:KL),vs[i]?=some v->s.w[i]?=some l->Row1 h v (l.map vI)
 rows:∀ (i b:Nat) (r:List Int),rb[i]?=some b->s.R[i]?=some r->Blk h b (r.map vI)/\r.length=L
 nR:s.R.length=s.w.length
 ok:∀ l∈s.w,okL l
 apart:∀ v∈vs,∀ j∈blkOf v,j∉ownR b mb lv tv ev rb
 nd:(ownR b mb lv tv ev rb).Nodup
def Ref (h:AHeap) (b L:Nat) (s:BS KL) (E:List Bool) (lots:Bool) (own:List Nat):Prop:=∃ mp mb lv tv ev rb vs,own=ownR b mb lv tv ev rb/\RefR h b L s E lots mp mb lv tv ev rb vs
section
variable {b L:Nat} {s:BS KL} {E:List Bool} {lots:Bool} {mp:List (List UInt8×Int)} {mb:Nat} {lv tv ev:AVal} {rb:List Nat} {vs:List AVal}
theorem RefR.nrb (M:RefR h b L s E lots mp mb lv tv ev rb vs):rb.length=s.w.length:=by have:=M.to.1;simpa using this
theorem RefR.nE (M:RefR h b L s E lots mp mb lv tv ev rb vs):E.length=s.w.length:=by have:=M.en.1;simpa using this
theorem RefR.nvs (M:RefR h b L s E lots mp mb lv tv ev rb vs):vs.length=s.w.length:=by have:=M.list.1;simpa using this
theorem RefR.lt (M:RefR h b L s E lots mp mb lv tv ev rb vs) (w:WF h):∀ j∈ownR b mb lv tv ev rb,j < h.next:=by
 intro j hj
 simp only [ownR,List.mem_cons,List.mem_append] at hj
 rcases hj with rfl | rfl | hj | hj | hj | hj
 ·exact M.box.lt w
 ·exact M.map.lt w
 ·exact own_lt M.list w j hj
 ·exact own_lt M.to w j hj
 ·exact own_lt M.en w j hj
 ·obtain ⟨i,hi,rfl⟩:=List.getElem_of_mem hj
  have hi':i < s.R.length:=by rw [M.nR,<-M.nrb];exact hi
  exact (M.rows i rb[i] s.R[i] (by simp [hi]) (by simp [hi'])).1.lt w
theorem RefR.elt (M:RefR h b L s E lots mp mb lv tv ev rb vs) (w:WF h) {v:AVal} (hv:v∈vs):∀ j∈blkOf v,j < h.next:=by
 obtain ⟨i,hi,rfl⟩:=List.getElem_of_mem hv
 have hi':i < s.w.length:=by rw [<-M.nvs];exact hi
 exact row_lt (M.elems i vs[i] s.w[i] (by simp [hi]) (by simp [hi'])) w
theorem RefR.kp (M:RefR h b L s E lots mp mb lv tv ev rb vs) (k1:∀ j∈ownR b mb lv tv ev rb,Kp h h' j) (k2:∀ v∈vs,∀ j∈blkOf v,Kp h h' j):RefR h' b L s E lots mp mb lv tv ev rb vs:=by
 refine ⟨Blk.kp M.box (k1 b (by simp [ownR])),MapOf.kp' M.map (k1 mb (by simp [ownR])),M.met,own_kp M.list fun j hj=>k1 j (by simp [ownR,hj]),own_kp M.to fun j hj=>k1 j (by simp [ownR,hj]),own_kp M.en fun j hj=>k1 j (by simp [ownR,hj]),fun i v l h1 h2=>row_kp (M.elems i v l h1 h2) (k2 v (List.mem_of_getElem? h1)),fun i b r h1 h2=>?_,M.nR,M.ok,M.apart,M.nd⟩
 obtain ⟨h3,h4⟩:=M.rows i b r h1 h2
 exact ⟨Blk.kp h3 (k1 b (by have:=List.mem_of_getElem? h1;simp [ownR,this])),h4⟩
theorem Ref.mono {own:List Nat} (M:Ref h b L s E lots own) (l:Hle h h'):Ref h' b L s E lots own:=by
 obtain ⟨mp,mb,lv,tv,ev,rb,vs,e,M⟩:=M
 exact ⟨mp,mb,lv,tv,ev,rb,vs,e,M.kp (fun j _=>l.get j) fun v _ j _=>l.get j⟩
theorem Ref.lt {own:List Nat} (M:Ref h b L s E lots own) (w:WF h):∀ j∈own,j < h.next:=by
 obtain ⟨mp,mb,lv,tv,ev,rb,vs,rfl,M⟩:=M
 exact M.lt w
end
def putU (L:Nat) (l:KL) (s:BS KL):BS KL:=if l∈s.w then ⟨s.w,s.R,s.st+1⟩ else ⟨s.w++[l],s.R++[List.replicate L (-1)],s.st+1⟩
def putE2 (l:KL) (w:List KL) (E:List Bool):List Bool:=if l∈w then E else E++[false]
theorem idxK_snoc {κ:Type} [DecidableEq κ] {l:List κ} {c:κ} (h:c∉l):idxK (l++[c]) c=l.length:=by unfold idxK;rw [List.idxOf_append,if_neg h];simp
theorem addU_put (L n k:Nat) (l:KL) (s:BS KL):addU L n k l s=⟨(putU L l s).w,setRC (putU L l s).R n k (idxK (putU L l s).w l:Int),(putU L l s).st⟩:=by
 by_cases h:l∈s.w
 ·rw [addU_old L h];unfold putU;rw [if_pos h]
 ·rw [addU_new L h];unfold putU;rw [if_neg h]
  simp only [idxK_snoc h]
theorem mem_keys {l:KL} {w:List KL} (hl:okL l) (hw:∀ x∈w,okL x):keyBytes l∈w.map keyBytes↔l∈w:=by
 rw [List.mem_map]
 exact ⟨fun ⟨y,hy,e⟩=>keyBytes_inj (hw y hy) hl e ▸ hy,fun h=>⟨l,h,rfl⟩⟩
theorem idx_keys {l:KL} {w:List KL} (hl:okL l) (hw:∀ x∈w,okL x):idxK (w.map keyBytes) (keyBytes l)=idxK w l :=
 idxK_map keyBytes okL (fun a b ha hb e=>keyBytes_inj ha hb e) hw hl
end Go.Ab.Z
namespace Go.Ab.Z
open Go Go.Ab
variable {h h':AHeap} {k:Post} {fe le en mo:AVal} {A:PAlpha} {X:PAuto}
theorem putU_st (L:Nat) (l:KL) (s:BS KL):(putU L l s).st=s.st+1:=by unfold putU;split<;>rfl
set_option maxHeartbeats 2000000 in
theorem f66 {b L:Nat} {s:BS KL} {E:List Bool} {lots:Bool} {own:List Nat} {v:AVal} {l:KL} (M:Ref h b L s E lots own) (hv:Row1 h v (l.map vI)) (hvo:∀ j∈blkOf v,j∉own) (hl:okL l) (hll:l.length<=100000) (hL:L<=1000)
  (hn:s.w.length<=1000000) (hst:s.st<=1000000) (H0:l=[]->WF h->k (.int .i64 (-1)) h)
  (H1:l≠[]->∀ h' own',WF h'->Ref h' b L (putU L l s) (putE2 l s.w E) (lots || !capOk (putU L l s)) own'->(∀ j∈own',j∈own\/h.next<=j)->Hx own h h'->k (.int .i64 (idxK (putU L l s).w l:Int)) h') :
  Cf 66 [.ptr b 0,v,.int .i64 (L:Int)] h k:=by
 refine use_code compiled66 fun hw=>?_
 obtain ⟨mp,mb,lv,tv,ev,rb,vs,rfl,M⟩:=M
 have hlt:=M.lt hw
 have vl:=hv.len
 simp only [List.length_map] at vl
 have nd:=M.nd
 simp only [ownR,List.nodup_cons,List.mem_cons,List.mem_append,not_or] at nd
 obtain ⟨⟨bm,bl,bt,be,br⟩,⟨ml,mt,me,mr⟩,nd⟩:=nd
 obtain ⟨ndl,nd,xl⟩:=List.nodup_append.1 nd
 obtain ⟨ndt,nd,xt⟩:=List.nodup_append.1 nd
 obtain ⟨nde,ndr,xe⟩:=List.nodup_append.1 nd
 have hbl:=M.box.lt hw
 have hml:=M.map.lt hw
 have tl:=own_lt M.to hw
 have el:=own_lt M.en hw
 have ll:=own_lt M.list hw
 have rl:∀ j∈rb,j < h.next:=fun j hj=>hlt j (by simp [ownR,hj])
 have r4:=M.box.rd1 (i:=4) (c:=.int .i64 (s.st:Int)) rfl
 simp [fn66,vl]
 by_cases hz:l=[]
 ·subst hz
  simp
  exact H0 rfl
 have hzl:l.length≠0:=fun e=>hz (List.length_eq_zero_iff.1 e)
 have mid:∀ {KN KR:Kn} {KX:Kx} (h':AHeap) (T:PT AVal) (s':BS KL) (E':List Bool) (mp':List (List UInt8×Int)) (lv' tv' ev':AVal) (rb':List Nat) (vs':List AVal) (x:Nat),RefR h' b L s' E' lots mp' mb lv' tv' ev' rb' vs'->WF h'->x<=2000000 ->
   Has T [(0,.ptr b 0),(8,.int .i64 ((x:Int)+1))]->(∀ T' h'',WF h''->But b h' h''->RefR h'' b L s' E' (lots || !capOk s') mp' mb lv' tv' ev' rb' vs'->Has T' [(6,.int .i64 (x:Int))]->KR T' h'')->run lpI c66_15 (cfP PP []) KN KX KR T h':=by
  intro KN KR KX h' T s' E' mp' lv' tv' ev' rb' vs' x M' w' hx hT hK
  obtain ⟨t0,t8,_⟩:=hT
  simp at t0 t8
  have q1:=M'.box.rd1 (i:=1) (c:=lv') rfl
  have q4:=M'.box.rd1 (i:=4) (c:=.int .i64 (s'.st:Int)) rfl
  have q5:=M'.box.rd1 (i:=5) (c:=.bool lots) rfl
  have ln:=M'.list.len
  have wx:wrapF .i64 (x:Int)=(x:Int):=wrap64 (by omega) (by omega)
  have wr:∀ bb:Bool,bb=(lots || !capOk s')->∃ h'',h'.write b 5 [.bool bb]=some h''/\∀ T',Has T' [(6,.int .i64 (x:Int))]->KR T' h'':=by
   intro bb hbb
   obtain ⟨h'',y1,y2,y3⟩:=M'.box.write1 (i:=5) (c:=.bool bb) (by simp) rfl
   refine ⟨h'',y1,fun T' hT'=>hK T' h'' (y3.wf w' (M'.box.lt w')) y3 ?_ hT'⟩
   have nd':=M'.nd
   simp only [ownR,List.nodup_cons,List.mem_cons,List.mem_append,not_or] at nd'
   obtain ⟨⟨bm',bl',bt',be',br'⟩,_⟩:=nd'
   have kp:∀ j,j≠b->Kp h' h'' j:=fun j hj=>But.kp y3 hj
   rw [hbb] at y2
   refine ⟨by simpa using y2,MapOf.kp' M'.map (kp mb fun e=>bm' e.symm),M'.met,own_kp M'.list fun j hj=>kp j fun e=>bl' (e ▸ hj),own_kp M'.to fun j hj=>kp j fun e=>bt' (e ▸ hj),own_kp M'.en fun j hj=>kp j fun e=>be' (e ▸ hj),fun i v l h1 h2=>row_kp (M'.elems i v l h1 h2) fun j hj=>kp j fun e=>M'.apart v (List.mem_of_getElem? h1) j hj (by simp [ownR,e]),fun i c r h1 h2=>?_,M'.nR,M'.ok,M'.apart,M'.nd⟩
   obtain ⟨h3,h4⟩:=M'.rows i c r h1 h2
   exact ⟨Blk.kp h3 (kp c fun e=>br' (e ▸ List.mem_of_getElem? h1)),h4⟩
  cases lots with
  | true =>
   obtain ⟨h'',y1,y2⟩:=wr true (by simp)
   simp [PT.get_put,t0,t8,nilCheckA,q5,y1,wx]
   exact y2 _ (by simp [PT.get_put])
  | false =>
   by_cases c1:s'.st<=16384
   ·by_cases c2:s'.w.length<=4096
    ·obtain ⟨h'',y1,y2⟩:=wr false (by simp [capOk,c1,c2])
     have d1:decide ((16384:Int) < (s'.st:Int))=false:=decide_eq_false (by omega)
     have d2:decide ((4096:Int) < (s'.w.length:Int))=false:=decide_eq_false (by omega)
     simp [PT.get_put,t0,t8,nilCheckA,q5,q4]
     simp only [d1]
     simp [PT.get_put,t0,t8,nilCheckA,q5,q4,q1,ln]
     simp only [d2]
     simp [PT.get_put,t0,t8,y1,wx]
     exact y2 _ (by simp [PT.get_put])
    ·obtain ⟨h'',y1,y2⟩:=wr true (by simp [capOk,c2])
     have d1:decide ((16384:Int) < (s'.st:Int))=false:=decide_eq_false (by omega)
     have d2:decide ((4096:Int) < (s'.w.length:Int))=true:=decide_eq_true (by omega)
     simp [PT.get_put,t0,t8,nilCheckA,q5,q4]
     simp only [d1]
     simp [PT.get_put,t0,t8,nilCheckA,q5,q4,q1,ln]
     simp only [d2]
     simp [PT.get_put,t0,t8,y1,wx]
     exact y2 _ (by simp [PT.get_put])
   ·obtain ⟨h'',y1,y2⟩:=wr true (by simp [capOk,c1])
    have d1:decide ((16384:Int) < (s'.st:Int))=true:=decide_eq_true (by omega)
    simp [PT.get_put,t0,t8,nilCheckA,q5,q4]
    simp only [d1]
    simp [PT.get_put,t0,t8,nilCheckA,y1,wx]
    exact y2 _ (by simp [PT.get_put])
 have wst:wrapF .i64 ((s.st:Int)+1)=(s.st:Int)+1:=wrap64 (by omega) (by omega)
 obtain ⟨h1,a1,a2,a3⟩:=M.box.write1 (i:=4) (c:=.int .i64 ((s.st:Int)+1)) (by simp) rfl
 have a2:Blk h1 b [.map mb,lv,tv,ev,.int .i64 ((s.st:Int)+1),.bool lots]:=by simpa using a2
 have w1:=a3.wf hw hbl
 have K01:∀ j,j≠b->Kp h h1 j:=fun j hj=>But.kp a3 hj
 have hb0:∀ j∈blkOf v,j≠b:=fun j hj e=>hvo j hj (by simp [ownR,e])
 have hv1:Row1 h1 v (l.map vI):=row_kp hv fun j hj=>K01 j (hb0 j hj)
 have dz:decide (l=[])=false:=decide_eq_false hz
 simp [hz,nilCheckA,r4,wst,a1,-x66_17]
 refine f122 hv1 hl hll fun h2 w2 l2=>?_
 have K02:∀ j,j≠b->Kp h h2 j:=fun j hj=>Kp.trans (K01 j hj) (Hle.kp l2 j)
 have box2:=a2.mono l2
 have map2:=MapOf.kp' M.map (K02 mb fun e=>bm e.symm)
 have q0:=box2.rd1 (i:=0) (c:=.map mb) rfl
 have lk:=map2.lookup kd9i (keyBytes l) (.int .i64 0) false
 have mk:=mem_keys hl M.ok
 have n12:h1.next=h.next:=a3.next
 have n2:=l2.next
 by_cases hin:l∈s.w
 ·rw [M.met.old (mk.2 hin),idx_keys hl M.ok] at lk
  have lk:lookupA ⟨9,false,[.str]⟩ (.int .i64 0) false (.map mb) (.str (keyBytes l)) h2=some (.int .i64 ((idxK s.w l:Int)+1)):=lk
  have hix:idxK s.w l<=s.w.length:=idxK_le _ _
  have pu:putU L l s=⟨s.w,s.R,s.st+1⟩:=if_pos hin
  have d0:decide (((idxK s.w l:Nat):Int)+1=0)=false:=decide_eq_false (by omega)
  simp [q0,lk,-x66_15]
  refine ap_split (fun hq=>absurd hq (by omega)) (fun _=>?_)
  simp [-x66_15]
  have M2:RefR h2 b L ⟨s.w,s.R,s.st+1⟩ E lots mp mb lv tv ev rb vs:=by
   refine ⟨box2,map2,M.met,own_kp M.list fun j hj=>K02 j fun e=>bl (e ▸ hj),own_kp M.to fun j hj=>K02 j fun e=>bt (e ▸ hj),own_kp M.en fun j hj=>K02 j fun e=>be (e ▸ hj),fun i v l h1 h2=>row_kp (M.elems i v l h1 h2) fun j hj=>K02 j fun e=>M.apart v (List.mem_of_getElem? h1) j hj (by simp [ownR,e]),fun i c r h1 h2=>?_,M.nR,M.ok,M.apart,M.nd⟩
   obtain ⟨h3,h4⟩:=M.rows i c r h1 h2
   exact ⟨Blk.kp h3 (K02 c fun e=>br (e ▸ List.mem_of_getElem? h1)),h4⟩
  refine mid h2 _ _ _ _ _ _ _ _ _ (idxK s.w l) M2 w2 (by omega) (by simp) fun T' h'' w'' bt'' M'' hT'=>?_
  obtain ⟨t6,_⟩:=hT'
  simp at t6
  simp [t6]
  intro ww
  have H1:=H1 hz h'' (ownR b mb lv tv ev rb) w'' ⟨mp,mb,lv,tv,ev,rb,vs,rfl,by rw [pu];unfold putE2;rw [if_pos hin];exact M''⟩ (fun j hj=>.inl hj) ⟨by have:=bt''.next;omega,fun j hj=>Kp.trans (K02 j fun e=>hj (by simp [ownR,e])) (But.kp bt'' fun e=>hj (by simp [ownR,e]))⟩
  rw [pu] at H1
  exact H1
 ·rw [M.met.new fun e=>hin (mk.1 e)] at lk
  have lk:lookupA ⟨9,false,[.str]⟩ (.int .i64 0) false (.map mb) (.str (keyBytes l)) h2=some (.int .i64 0):=lk
  have pu:putU L l s=⟨s.w++[l],s.R++[List.replicate L (-1)],s.st+1⟩:=if_neg hin
  have q1:=box2.rd1 (i:=1) (c:=lv) rfl
  have vc:v.cells=[v]:=by have:=Row.cells hv;exact this
  have list2:ORow h2 1 lv s.w.length vs:=own_kp M.list fun j hj=>K02 j fun e=>bl (e ▸ hj)
  obtain ⟨h3,b1,b2,w3,n3,K23⟩:=orow_push list2 w2 [v] rfl (by omega) (by show bi (oneA v) true false=true;rw [row_one hv];rfl)
  have box3:=Blk.kp box2 (K23 b bl)
  obtain ⟨h4,c1,c2,c3⟩:=box3.write1 (i:=1) (c:=.slice (h2.next+1) 0 (s.w.length+1) (s.w.length+1) 1) (by simp) rfl
  have c2:Blk h4 b [.map mb,.slice (h2.next+1) 0 (s.w.length+1) (s.w.length+1) 1,tv,ev,.int .i64 ((s.st:Int)+1),.bool lots]:=by simpa using c2
  have w4:=c3.wf w3 (by omega)
  have n4:h4.next=h2.next+2:=by rw [c3.next];exact n3
  have q2:=c2.rd1 (i:=2) (c:=tv) rfl
  simp [q0,lk,q1,vc,listPut,b1,c1,q2,-x66_15]
  refine f75 (n:=L) (by omega) fun h5 w5 l5 n5 row5=>?_
  have K34:∀ j,j≠b->Kp h3 h4 j:=fun j hj=>But.kp c3 hj
  have box5:=c2.mono l5
  have q2':=box5.rd1 (i:=2) (c:=tv) rfl
  have st:=same_orow M.to
  have to5:ORow h5 1 tv s.w.length (rb.map (rowS L)):=own_kp M.to fun j hj=>Kp.trans (K02 j fun e=>bt (e ▸ hj)) (Kp.trans (K23 j fun e=>xl j e j (by simp [hj]) rfl) (Kp.trans (K34 j fun e=>bt (e ▸ hj)) (Hle.kp l5 j)))
  obtain ⟨h6,d1,d2,w6,n6,K56⟩:=orow_push to5 w5 [rowS L h4.next] rfl (by omega) rfl
  have d1:appendA (h5.newCells [.slice h4.next 0 L L 1]) 1 tv (.slice h5.next 0 1 1 1)=some (some (.slice (h5.next+1) 0 (s.w.length+1) (s.w.length+1) 1),h6):=d1
  have l5n:=Hle.newCells w5 [.slice h4.next 0 L L 1]
  have q2'':=(box5.mono l5n).rd1 (i:=2) (c:=tv) rfl
  have box6:=Blk.kp box5 (K56 b bt)
  obtain ⟨h7,e1,e2',e3⟩:=box6.write1 (i:=2) (c:=.slice (h5.next+1) 0 (s.w.length+1) (s.w.length+1) 1) (by simp) rfl
  have e2':Blk h7 b [.map mb,.slice (h2.next+1) 0 (s.w.length+1) (s.w.length+1) 1,.slice (h5.next+1) 0 (s.w.length+1) (s.w.length+1) 1,ev,.int .i64 ((s.st:Int)+1),.bool lots]:=by simpa using e2'
  have w7:=e3.wf w6 (by omega)
  have n7:h7.next=h5.next+2:=by rw [e3.next];exact n6
  have q3:=e2'.rd1 (i:=3) (c:=ev) rfl
  have K67:∀ j,j≠b->Kp h6 h7 j:=fun j hj=>But.kp e3 hj
  have K27:∀ j,j≠b->j∉blkOf lv->j∉blkOf tv->Kp h2 h7 j:=fun j h1 h2 h3=>Kp.trans (K23 j h2) (Kp.trans (K34 j h1) (Kp.trans (Hle.kp l5 j) (Kp.trans (K56 j h3) (K67 j h1))))
  have en7:ORow h7 1 ev s.w.length (E.map .bool):=own_kp M.en fun j hj=>Kp.trans (K02 j fun e=>be (e ▸ hj)) (K27 j (fun e=>be (e ▸ hj)) (fun e=>xl j e j (by simp [hj]) rfl) (fun e=>xt j e j (by simp [hj]) rfl))
  obtain ⟨h8,f1,f2,w8,n8,K78⟩:=orow_push en7 w7 [.bool false] rfl (by omega) rfl
  have box8:=Blk.kp e2' (K78 b be)
  obtain ⟨h9,g1,g2,g3⟩:=box8.write1 (i:=3) (c:=.slice (h7.next+1) 0 (s.w.length+1) (s.w.length+1) 1) (by simp) rfl
  have g2:Blk h9 b [.map mb,.slice (h2.next+1) 0 (s.w.length+1) (s.w.length+1) 1,.slice (h5.next+1) 0 (s.w.length+1) (s.w.length+1) 1,.slice (h7.next+1) 0 (s.w.length+1) (s.w.length+1) 1,.int .i64 ((s.st:Int)+1),.bool lots]:=by simpa using g2
  have w9:=g3.wf w8 (by omega)
  have n9:h9.next=h7.next+2:=by rw [g3.next];exact n8
  have K89:∀ j,j≠b->Kp h8 h9 j:=fun j hj=>But.kp g3 hj
  have K29:∀ j,j≠b->j∉blkOf lv->j∉blkOf tv->j∉blkOf ev->Kp h2 h9 j:=fun j h1 h2 h3 h4=>Kp.trans (K27 j h1 h2 h3) (Kp.trans (K78 j h4) (K89 j h1))
  have map9:=MapOf.kp' map2 (K29 mb (fun e=>bm e.symm) ml mt me)
  obtain ⟨hA,u1,u2,u3⟩:=map9.update kd9i (keyBytes l) ((s.w.length:Int)+1)
  have u1:updateA ⟨9,false,[.str]⟩ (.map mb) (.str (keyBytes l)) (.int .i64 ((s.w.length:Int)+1)) h9=some (none,hA):=u1
  have q9:=g2.rd1 (i:=1) (c:=.slice (h2.next+1) 0 (s.w.length+1) (s.w.length+1) 1) rfl
  have q90:=g2.rd1 (i:=0) (c:=.map mb) rfl
  simp [q2',st,listPut,q2'',d1,e1,q3,f1,g1,q9,q90,u1,-x66_15]
  have KA:∀ j,j≠mb->Kp h9 hA j:=fun j hj=>But.kp u3 hj
  have K2A:∀ j,j≠b->j≠mb->j∉blkOf lv->j∉blkOf tv->j∉blkOf ev->Kp h2 hA j:=fun j h1 h2 h3 h4 h5=>Kp.trans (K29 j h1 h3 h4 h5) (KA j h2)
  have K8A:∀ j,j≠b->j≠mb->Kp h8 hA j:=fun j h1 h2=>Kp.trans (K89 j h1) (KA j h2)
  have K6A:∀ j,j≠b->j≠mb->j∉blkOf ev->Kp h6 hA j:=fun j h1 h2 h3=>Kp.trans (K67 j h1) (Kp.trans (K78 j h3) (K8A j h1 h2))
  have K5A:∀ j,j≠b->j≠mb->j∉blkOf tv->j∉blkOf ev->Kp h5 hA j:=fun j h1 h2 h3 h4=>Kp.trans (K56 j h3) (K6A j h1 h2 h4)
  have K3A:∀ j,j≠b->j≠mb->j∉blkOf tv->j∉blkOf ev->Kp h3 hA j:=fun j h1 h2 h3 h4=>Kp.trans (K34 j h1) (Kp.trans (Hle.kp l5 j) (K5A j h1 h2 h3 h4))
  have wA:=u3.wf w9 (by omega)
  have nA:hA.next=h9.next:=u3.next
  have nt:∀ j,h.next<=j->j∉blkOf tv:=fun j hj e=>by have:=tl j e;omega
  have ne:∀ j,h.next<=j->j∉blkOf ev:=fun j hj e=>by have:=el j e;omega
  have nr:∀ j,h.next<=j->j∉rb:=fun j hj e=>by have:=rl j e;omega
  have vlt:∀ j∈blkOf v,j < h.next:=row_lt hv hw
  have MA:RefR hA b L ⟨s.w++[l],s.R++[List.replicate L (-1)],s.st+1⟩ (E++[false]) lots (aput mp (keyBytes l) ((s.w.length:Int)+1)) mb (.slice (h2.next+1) 0 (s.w.length+1) (s.w.length+1) 1) (.slice (h5.next+1) 0 (s.w.length+1) (s.w.length+1) 1) (.slice (h7.next+1) 0 (s.w.length+1) (s.w.length+1) 1) (rb++[h4.next]) (vs++[v]):=by
   refine ⟨Blk.kp g2 (KA b bm),u2,?_,?_,?_,?_,fun i u r h1 h2=>?_,fun i c r h1 h2=>?_,by simp [M.nR],fun r hr=>?_,fun u hu j hj hj'=>?_,?_⟩
   ·rw [List.map_append]
    have:=M.met.push (c:=keyBytes l) fun e=>hin (mk.1 e)
    simpa using this
   ·rw [List.length_append,List.length_singleton]
    exact own_kp b2 fun j hj=>by
     simp [blkOf] at hj;subst hj
     exact K3A _ (by omega) (by omega) (nt _ (by omega)) (ne _ (by omega))
   ·rw [List.length_append,List.length_singleton,List.map_append]
    exact own_kp d2 fun j hj=>by
     simp [blkOf] at hj;subst hj
     exact K6A _ (by omega) (by omega) (ne _ (by omega))
   ·rw [List.length_append,List.length_singleton,List.map_append]
    exact own_kp f2 fun j hj=>by
     simp [blkOf] at hj;subst hj
     exact K8A _ (by omega) (by omega)
   ·have hnv:=M.nvs
    by_cases hi:i < vs.length
    ·rw [List.getElem?_append_left hi] at h1
     rw [List.getElem?_append_left (by omega)] at h2
     refine row_kp (M.elems i u r h1 h2) fun j hj=>?_
     have ap:=M.apart u (List.mem_of_getElem? h1) j hj
     simp only [ownR,List.mem_cons,List.mem_append,not_or] at ap
     exact Kp.trans (K02 j ap.1) (K2A j ap.1 ap.2.1 ap.2.2.1 ap.2.2.2.1 ap.2.2.2.2.1)
    ·rw [List.getElem?_append_right (by omega)] at h1
     rw [List.getElem?_append_right (by omega)] at h2
     have hz0:i - vs.length=0:=by have:=(List.getElem?_eq_some_iff.1 h1).1;simp at this;omega
     rw [hz0] at h1
     rw [<-hnv,hz0] at h2
     simp at h1 h2
     subst h1;subst h2
     refine row_kp hv fun j hj=>?_
     have ap:=hvo j hj
     simp only [ownR,List.mem_cons,List.mem_append,not_or] at ap
     exact Kp.trans (K02 j ap.1) (K2A j ap.1 ap.2.1 ap.2.2.1 ap.2.2.2.1 ap.2.2.2.2.1)
   ·have hnb:=M.nrb
    have hnR:=M.nR
    by_cases hi:i < rb.length
    ·rw [List.getElem?_append_left hi] at h1
     rw [List.getElem?_append_left (by omega)] at h2
     obtain ⟨z1,z2⟩:=M.rows i c r h1 h2
     have hc:=List.mem_of_getElem? h1
     exact ⟨Blk.kp z1 (Kp.trans (K02 c fun e=>br (e ▸ hc)) (K2A c (fun e=>br (e ▸ hc)) (fun e=>mr (e ▸ hc)) (fun e=>xl c e c (by simp [hc]) rfl) (fun e=>xt c e c (by simp [hc]) rfl) (fun e=>xe c e c hc rfl))),z2⟩
    ·rw [List.getElem?_append_right (by omega)] at h1
     rw [List.getElem?_append_right (by omega)] at h2
     have hz0:i - rb.length=0:=by have:=(List.getElem?_eq_some_iff.1 h1).1;simp at this;omega
     rw [hz0] at h1
     rw [hnR,<-hnb,hz0] at h2
     simp at h1 h2
     subst h1;subst h2
     refine ⟨?_,by simp⟩
     rw [List.map_replicate]
     exact Blk.kp row5 (K5A _ (by omega) (by omega) (nt _ (by omega)) (ne _ (by omega)))
   ·rcases List.mem_append.1 hr with h1 | h1
    ·exact M.ok r h1
    ·simp at h1;rw [h1];exact hl
   ·have:j∈ownR b mb lv tv ev rb\/h.next<=j:=by
     simp only [ownR,blkOf,List.cons_append,List.nil_append,List.mem_cons,List.mem_append,List.not_mem_nil,or_false] at hj' ⊢
     rcases hj' with h1 | h1 | h1 | h1 | h1 | h1 | h1
     ·exact .inl (.inl h1)
     ·exact .inl (.inr (.inl h1))
     ·exact .inr (by omega)
     ·exact .inr (by omega)
     ·exact .inr (by omega)
     ·exact .inl (by simp [h1])
     ·exact .inr (by omega)
    rcases List.mem_append.1 hu with h1 | h1
    ·rcases this with h2 | h2
     ·exact M.apart u h1 j hj h2
     ·have:=M.elt hw h1 j hj;omega
    ·simp at h1;subst h1
     rcases this with h2 | h2
     ·exact hvo j hj h2
     ·have:=vlt j hj;omega
   ·simp only [ownR,blkOf,List.cons_append,List.nil_append,List.nodup_cons,List.mem_cons,List.mem_append,List.not_mem_nil,or_false,not_or]
    have nr2:=nr (h2.next+1) (by omega)
    have nr5:=nr (h5.next+1) (by omega)
    have nr7:=nr (h7.next+1) (by omega)
    refine ⟨⟨bm,by omega,by omega,by omega,br,by omega⟩,⟨by omega,by omega,by omega,mr,by omega⟩,⟨by omega,by omega,nr2,by omega⟩,⟨by omega,nr5,by omega⟩,⟨nr7,by omega⟩,?_⟩
    rw [List.nodup_append]
    exact ⟨ndr,by simp,fun a ha c hc e=>by simp at hc;have:=rl a ha;omega⟩
  refine mid hA _ _ _ _ _ _ _ _ _ s.w.length MA wA (by omega) (by simp) fun T' h'' w'' bt'' M'' hT'=>?_
  obtain ⟨t6,_⟩:=hT'
  simp at t6
  simp [t6]
  intro ww
  have ix:idxK (s.w++[l]) l=s.w.length:=idxK_snoc hin
  have H1:=H1 hz h'' _ w'' ⟨_,_,_,_,_,_,_,rfl,by rw [pu];unfold putE2;rw [if_neg hin];exact M''⟩ (fun j hj=>?_) ⟨by have:=bt''.next;omega,fun j hj=>?_⟩
  ·rw [pu] at H1
   simp only [ix] at H1
   exact H1
  ·simp only [ownR,blkOf,List.cons_append,List.nil_append,List.mem_cons,List.mem_append,List.not_mem_nil,or_false] at hj ⊢
   rcases hj with h1 | h1 | h1 | h1 | h1 | h1 | h1
   ·exact .inl (.inl h1)
   ·exact .inl (.inr (.inl h1))
   ·exact .inr (by omega)
   ·exact .inr (by omega)
   ·exact .inr (by omega)
   ·exact .inl (by simp [h1])
   ·exact .inr (by omega)
  ·simp only [ownR,List.mem_cons,List.mem_append,not_or] at hj
   exact Kp.trans (K02 j hj.1) (Kp.trans (K2A j hj.1 hj.2.1 hj.2.2.1 hj.2.2.2.1 hj.2.2.2.2.1) (But.kp bt'' hj.1))
end Go.Ab.Z
namespace Go.Ab.Z
open Go Go.Ab
variable {h h':AHeap} {k:Post} {fe le en mo:AVal} {A:PAlpha} {X:PAuto}
theorem nodup_ne {l:List Nat} (nd:l.Nodup) {i n:Nat} (hi:i < l.length) (hn:n < l.length) (h:i≠n):l[i]≠l[n]:=by
 have p:=List.pairwise_iff_getElem.1 nd
 rcases Nat.lt_or_gt_of_ne h with h1 | h1
 ·exact p i n hi hn h1
 ·exact fun e=>p n i hn hi h1 e.symm
section
variable {b L:Nat} {s:BS KL} {E:List Bool} {lots:Bool} {own:List Nat}
theorem Ref.len (M:Ref h b L s E lots own):∃ lv,h.read1 b 1=some lv/\∀ g,lenA .row lv g=some (.int .i64 (s.w.length:Int)):=by
 obtain ⟨mp,mb,lv,tv,ev,rb,vs,rfl,M⟩:=M
 exact ⟨lv,M.box.rd1 (i:=1) (c:=lv) rfl,M.list.len⟩
theorem Ref.rdLots (M:Ref h b L s E lots own):h.read1 b 5=some (.bool lots):=by
 obtain ⟨mp,mb,lv,tv,ev,rb,vs,rfl,M⟩:=M
 exact M.box.rd1 (i:=5) (c:=.bool lots) rfl
theorem orow_at {sz n:Nat} {v:AVal} {cs:List AVal} (o:ORow h sz v n cs) {i:Nat} (hi:i < n) {c:AVal} (hc:cs[i]?=some c) (h1:sz=1):indexAddrS 1 v (.int .i64 (i:Int))=some (.ptr (rowB v) i)/\h.read1 (rowB v) i=some c:=by
 subst h1
 have i1:=o.idx hi .i64
 rw [Nat.mul_one] at i1
 obtain ⟨rest,bb⟩:=o.blk (by omega)
 exact ⟨i1,bb.rd1 (by rw [List.getElem?_append_left (List.getElem?_eq_some_iff.1 hc).1];exact hc)⟩
theorem Ref.at (M:Ref h b L s E lots own) {n:Nat} (hn:n < s.w.length):∃ lv v,h.read1 b 1=some lv/\indexAddrS 1 lv (.int .i64 (n:Int))=some (.ptr (rowB lv) n)/\h.read1 (rowB lv) n=some v/\Row1 h v (s.w[n].map vI)/\∀ j∈blkOf v,j∉own:=by
 obtain ⟨mp,mb,lv,tv,ev,rb,vs,rfl,M⟩:=M
 have hv:n < vs.length:=by rw [M.nvs];exact hn
 obtain ⟨i1,i2⟩:=orow_at M.list hn (c:=vs[n]) (by simp [hv]) rfl
 exact ⟨lv,vs[n],M.box.rd1 (i:=1) (c:=lv) rfl,i1,i2,M.elems n vs[n] s.w[n] (by simp [hv]) (by simp [hn]),M.apart vs[n] (List.getElem_mem hv)⟩
theorem rowB_mem {sz n:Nat} {v:AVal} {cs:List AVal} (o:ORow h sz v n cs) (hn:0 < n):rowB v∈blkOf v:=by
 obtain ⟨_,⟨_,e⟩ | ⟨b,cap,rest,rfl,_⟩⟩:=o
 ·omega
 ·simp [blkOf]
theorem Ref.setEnd (M:Ref h b L s E lots own) (w:WF h) {n:Nat} (hn:n < s.w.length) (e:Bool):∃ ev h2,h.read1 b 3=some ev/\indexAddrS 1 ev (.int .i64 (n:Int))=some (.ptr (rowB ev) n)/\h.read1 (rowB ev) n=some (.bool (E.getD n false)) /\
  h.write (rowB ev) n [.bool e]=some h2/\WF h2/\h2.next=h.next/\Hx own h h2/\Ref h2 b L s (E.set n e) lots own:=by
 obtain ⟨mp,mb,lv,tv,ev,rb,vs,rfl,M⟩:=M
 have hE:n < E.length:=by rw [M.nE];exact hn
 have gd:E.getD n false=E[n]:=by rw [List.getD_eq_getElem?_getD,List.getElem?_eq_getElem hE];rfl
 obtain ⟨i1,i2⟩:=orow_at M.en hn (c:=.bool E[n]) (by simp [hE]) rfl
 obtain ⟨h2,a1,a2,a3⟩:=M.en.write1 (i:=n) (c:=.bool e) hn rfl
 rw [<-List.map_set] at a2
 have hr:=rowB_mem M.en (by omega)
 have hl:=own_lt M.en w _ hr
 have nd:=M.nd
 simp only [ownR,List.nodup_cons,List.mem_cons,List.mem_append,not_or] at nd
 obtain ⟨⟨bm,bl,bt,be,br⟩,⟨ml,mt,me,mr⟩,nd⟩:=nd
 obtain ⟨ndl,nd,xl⟩:=List.nodup_append.1 nd
 obtain ⟨ndt,nd,xt⟩:=List.nodup_append.1 nd
 obtain ⟨nde,ndr,xe⟩:=List.nodup_append.1 nd
 have kp:∀ j,j∉blkOf ev->Kp h h2 j:=fun j hj=>But.kp a3 fun e=>hj (e ▸ hr)
 refine ⟨ev,h2,M.box.rd1 (i:=3) (c:=ev) rfl,i1,by rw [gd];exact i2,a1,a3.wf w hl,a3.next,⟨by rw [a3.next];exact Nat.le_refl _,fun j hj=>kp j fun e=>hj (by simp [ownR,e])⟩,mp,mb,lv,tv,ev,rb,vs,rfl,?_⟩
 refine ⟨Blk.kp M.box (kp b be),MapOf.kp' M.map (kp mb me),M.met,own_kp M.list fun j hj=>kp j fun e=>xl j hj j (by simp [e]) rfl,own_kp M.to fun j hj=>kp j fun e=>xt j hj j (by simp [e]) rfl,a2,fun i v l h1 h2=>row_kp (M.elems i v l h1 h2) fun j hj=>kp j fun e=>M.apart v (List.mem_of_getElem? h1) j hj (by simp [ownR,e]),fun i c r h1 h2=>?_,M.nR,M.ok,M.apart,M.nd⟩
 obtain ⟨h3,h4⟩:=M.rows i c r h1 h2
 exact ⟨Blk.kp h3 (kp c fun e=>xe c e c (List.mem_of_getElem? h1) rfl),h4⟩
theorem Ref.setTo (M:Ref h b L s E lots own) (w:WF h) {n c:Nat} (hn:n < s.w.length) (hc:c < L) (x:Int):∃ tv c' h2,h.read1 b 2=some tv/\indexAddrS 1 tv (.int .i64 (n:Int))=some (.ptr (rowB tv) n)/\h.read1 (rowB tv) n=some (rowS L c') /\
  indexAddrS 1 (rowS L c') (.int .i64 (c:Int))=some (.ptr c' c)/\h.write c' c [.int .i64 x]=some h2/\WF h2/\h2.next=h.next/\Hx own h h2/\Ref h2 b L ⟨s.w,setRC s.R n c x,s.st⟩ E lots own:=by
 obtain ⟨mp,mb,lv,tv,ev,rb,vs,rfl,M⟩:=M
 have hrb:n < rb.length:=by rw [M.nrb];exact hn
 have hR:n < s.R.length:=by rw [M.nR];exact hn
 obtain ⟨i1,i2⟩:=orow_at M.to hn (c:=rowS L rb[n]) (by simp [hrb]) rfl
 obtain ⟨vb,vl⟩:=M.rows n rb[n] s.R[n] (by simp [hrb]) (by simp [hR])
 obtain ⟨h2,a1,a2,a3⟩:=vb.write1 (i:=c) (c:=vI x) (by simp only [List.length_map];omega) rfl
 rw [<-List.map_set] at a2
 have hmem:rb[n]∈rb:=List.getElem_mem hrb
 have nd:=M.nd
 simp only [ownR,List.nodup_cons,List.mem_cons,List.mem_append,not_or] at nd
 obtain ⟨⟨bm,bl,bt,be,br⟩,⟨ml,mt,me,mr⟩,nd⟩:=nd
 obtain ⟨ndl,nd,xl⟩:=List.nodup_append.1 nd
 obtain ⟨ndt,nd,xt⟩:=List.nodup_append.1 nd
 obtain ⟨nde,ndr,xe⟩:=List.nodup_append.1 nd
 have gd:s.R.getD n []=s.R[n]:=by rw [List.getD_eq_getElem?_getD,List.getElem?_eq_getElem hR];rfl
 have kp:∀ j,j≠rb[n]->Kp h h2 j:=fun j hj=>But.kp a3 hj
 refine ⟨tv,rb[n],h2,M.box.rd1 (i:=2) (c:=tv) rfl,i1,i2,by simp [rowS,indexAddrS,Nat.succ_le_iff,hc],a1,a3.wf w (vb.lt w),a3.next,⟨by rw [a3.next];exact Nat.le_refl _,fun j hj=>kp j fun e=>hj (by rw [e];simp [ownR,hmem])⟩,mp,mb,lv,tv,ev,rb,vs,rfl,?_⟩
 refine ⟨Blk.kp M.box (kp b fun e=>br (e ▸ hmem)),MapOf.kp' M.map (kp mb fun e=>mr (e ▸ hmem)),M.met,own_kp M.list fun j hj=>kp j fun e=>xl j hj rb[n] (by simp [hmem]) e,own_kp M.to fun j hj=>kp j fun e=>xt j hj rb[n] (by simp [hmem]) e,own_kp M.en fun j hj=>kp j fun e=>xe j hj rb[n] hmem e,fun i v l h1 h2=>row_kp (M.elems i v l h1 h2) fun j hj=>kp j fun e=>M.apart v (List.mem_of_getElem? h1) j hj (by rw [e];simp [ownR,hmem]),fun i c0 r h1 h2=>?_,by rw [setRC_length];exact M.nR,M.ok,M.apart,M.nd⟩
 by_cases hi:i=n
 ·subst hi
  rw [List.getElem?_eq_getElem hrb] at h1
  cases h1
  unfold setRC at h2
  rw [List.getElem?_set_self hR,gd] at h2
  cases h2
  exact ⟨a2,by simpa using vl⟩
 ·unfold setRC at h2
  rw [List.getElem?_set_ne (fun e=>hi e.symm)] at h2
  obtain ⟨h3,h4⟩:=M.rows i c0 r h1 h2
  refine ⟨Blk.kp h3 (kp c0 fun e=>?_),h4⟩
  have hi':=(List.getElem?_eq_some_iff.1 h1).1
  have e2:rb[i]=rb[n]:=by rw [<-e];exact (List.getElem?_eq_some_iff.1 h1).2
  exact nodup_ne ndr hi' hrb hi e2
theorem Ref.graph (M:Ref h b L s E lots own):∃ tv ev,h.read b 2 2=some [tv,ev]/\IsGraph h tv ev s.R E/\oneA tv=true/\oneA ev=true:=by
 obtain ⟨mp,mb,lv,tv,ev,rb,vs,rfl,M⟩:=M
 refine ⟨tv,ev,M.box.rd (off:=2) (n:=2) (by simp) rfl,⟨⟨rb.map (rowS L),by simp [M.nrb,M.nR],M.to.row1,fun i r x h1 h2=>?_⟩,M.en.row1⟩,M.to.one,M.en.one⟩
 rw [List.getElem?_map] at h2
 cases hb:rb[i]? with
 | none=>rw [hb] at h2;cases h2
 | some c =>
  rw [hb] at h2;cases h2
  obtain ⟨h3,h4⟩:=M.rows i c r hb h1
  have:=h3.row1 (cap:=L) (by simp [h4])
  simpa [rowS,h4] using this
end
theorem f62 {v:AVal} {l:KL} {L:Nat} (hv:Row1 h v (l.map vI)) (hz:l≠[]) (hl:okL l) (hll:l.length<=100000) (hL:L<=1000)
  (H:∀ h' b own,WF h'->Hle h h'->Ref h' b L (begU L l) [false] false own->(∀ j∈own,h.next<=j)->k (.ptr b 0) h'):Cf 62 [v,.int .i64 (L:Int)] h k:=by
 refine use_code compiled62 fun hw=>?_
 have w1:=hw.new (.map 9 [] 0)
 have le1:=Hle.new hw (.map 9 [] 0)
 have w2:=w1.newCells [.map h.next,.nils,.nils,.nils,.int .i64 0,.bool false]
 have le2:=Hle.newCells w1 [.map h.next,.nils,.nils,.nils,.int .i64 0,.bool false]
 have M0:Ref ((h.new (.map 9 [] 0)).newCells [.map h.next,.nils,.nils,.nils,.int .i64 0,.bool false]) (h.next+1) L ⟨[],[],0⟩ [] false [h.next+1,h.next]:=by
  refine ⟨[],h.next,.nils,.nils,.nils,[],[],rfl,Blk.new (h.new (.map 9 [] 0)) _,(MapOf.new (K:=K9) (ek:=AVal.str) (ev:=vI) h).mono le2,MapS.nil 1,ORow.nil _ _,ORow.nil _ _,ORow.nil _ _,fun i v l h1 _=>by simp at h1,fun i b r h1 _=>by simp at h1,rfl,fun l h=>by simp at h,fun v h=>by simp at h,by simp [ownR,blkOf]⟩
 simp [fn62,listPut]
 refine f66 M0 (row_kp hv fun j _=>(le1.trans le2).get j) (fun j hj e=>by have:=row_lt hv hw j hj;simp at e;omega) hl hll hL (by simp) (by simp) (fun e=>absurd e hz) fun _ h3 own w3 M3 ho hx=>?_
 obtain ⟨mp,mb,lv,tv,ev,rb,vs,rfl,M3⟩:=M3
 obtain ⟨h4,a1,a2,a3⟩:=M3.box.write1 (i:=4) (c:=.int .i64 0) (by simp) rfl
 have nd:=M3.nd
 simp only [ownR,List.nodup_cons,List.mem_cons,List.mem_append,not_or] at nd
 obtain ⟨⟨bm,bl,bt,be,br⟩,_⟩:=nd
 have kp:∀ j,j≠h.next+1->Kp h3 h4 j:=fun j hj=>But.kp a3 hj
 have e1:putU L l (⟨[],[],0⟩:BS KL)=⟨[l],[List.replicate L (-1)],1⟩:=if_neg (by simp)
 rw [e1] at M3
 have e2:putE2 l ([]:List KL) []=[false]:=if_neg (by simp)
 have e3:(false || !capOk (⟨[l],[List.replicate L (-1)],1⟩:BS KL))=false:=by simp [capOk]
 rw [e1,e3] at a2
 rw [e2,e3] at M3
 simp [nilCheckA,a1]
 intro w
 refine H h4 (h.next+1) (ownR (h.next+1) mb lv tv ev rb) w (a3.hle (hx.hle' (le1.trans le2) hw fun j hj=>by simp at hj;omega) hw (by omega)) ⟨mp,mb,lv,tv,ev,rb,vs,rfl,?_⟩ fun j hj=>?_
 ·refine ⟨by simpa [begU] using a2,MapOf.kp' M3.map (kp mb fun e=>bm e.symm),M3.met,own_kp M3.list fun j hj=>kp j fun e=>bl (e ▸ hj),own_kp M3.to fun j hj=>kp j fun e=>bt (e ▸ hj),own_kp M3.en fun j hj=>kp j fun e=>be (e ▸ hj),fun i v l h1 h2=>row_kp (M3.elems i v l h1 h2) fun j hj=>kp j fun e=>M3.apart v (List.mem_of_getElem? h1) j hj (by simp [ownR,e]),fun i c r h1 h2=>?_,M3.nR,M3.ok,M3.apart,M3.nd⟩
  obtain ⟨h5,h6⟩:=M3.rows i c r h1 h2
  exact ⟨Blk.kp h5 (kp c fun e=>br (e ▸ List.mem_of_getElem? h1)),h6⟩
 ·rcases ho j hj with h1 | h1
  ·simp at h1;omega
  ·simp at h1;omega
def risingL (bs:List Bool):List Int:=((List.range bs.length).filter fun i=>bs.getD i false).map fun i:Nat=>(i:Int)
def risingN (bs:List Bool) (n:Nat):List Int:=((List.range n).filter fun i=>bs.getD i false).map fun i:Nat=>(i:Int)
theorem risingN_succ (bs:List Bool) (n:Nat):risingN bs (n+1)=risingN bs n++if bs.getD n false=true then [(n:Int)] else []:=by
 unfold risingN
 rw [List.range_succ,List.filter_append,List.map_append]
 congr 1
 by_cases hh:bs.getD n false=true
 ·rw [if_pos hh,List.filter_cons_of_pos (by simpa using hh)];rfl
 ·rw [if_neg hh,List.filter_cons_of_neg (by simpa using hh)];rfl
theorem risingN_len (bs:List Bool) (n:Nat):(risingN bs n).length<=n:=by
 have:=List.length_filter_le (fun i=>bs.getD i false) (List.range n)
 simpa [risingN] using this
theorem f67 {v:AVal} {bs:List Bool} (hv:Row1 h v (bs.map .bool)) (hn:bs.length<=100000)
  (H:∀ h' r,WF h'->Hle h h'->ORow h' 1 r (risingL bs).length ((risingL bs).map vI)->(∀ j∈blkOf r,h.next<=j)->k r h'):Cf 67 [v] h k:=by
 refine use_code compiled67 fun hw=>?_
 have vl:=hv.len
 simp only [List.length_map] at vl
 simp [fn67]
 rw [L67_1]
 refine loop_by (σ:=Nat×AVal) (fun p h'=>p.1<=bs.length/\WF h'/\Hle h h'/\ORow h' 1 p.2 (risingN bs p.1).length ((risingN bs p.1).map vI)/\∀ j∈blkOf p.2,h.next<=j)
  (fun p=>[(0,v),(3,p.2),(4,.int .i64 p.1)]) (fun p=>bs.length - p.1) (0,.nils) (by simp) ?_ ?_
 ·exact ⟨Nat.zero_le _,hw,Hle.refl _,by simpa [risingN] using ORow.nil _ 1,fun j hj=>by cases hj⟩
 rintro ⟨i,a⟩ h3 K ⟨hi,w3,le3,oa,ga⟩ hK
 simp only at hi oa ga hK
 simp [vl]
 refine ap_split (fun hc=>?_) (fun hc=>?_)
 ·have hc:i < bs.length:=by omega
  have wr:wrapF .i64 ((i:Int)+1)=(i:Int)+1:=wrap64 (by omega) (by omega)
  have ml:=risingN_len bs i
  have gd:bs.getD i false=bs[i]:=by rw [List.getD_eq_getElem?_getD,List.getElem?_eq_getElem hc];rfl
  have b1:=hv.idx (i:=i) (by simpa using hc) .i64
  have b2:=(hv.mono le3).rd (i:=i) (c:=.bool bs[i]) (by simp [hc])
  simp [b1,b2]
  refine ap_cases (fun hq=>?_) (fun hq=>?_)
  ·obtain ⟨h4,e1,e2,e3,e4,kp⟩:=orow_push oa w3 [vI i] rfl (by omega) rfl
   have e1':appendA (h3.newCells [.int .i64 (i:Int)]) 1 a (.slice h3.next 0 1 1 1)=some (some (.slice (h3.next+1) 0 ((risingN bs i).length+1) ((risingN bs i).length+1) 1),h4):=e1
   simp [listPut,e1',wr]
   have em:risingN bs (i+1)=risingN bs i++[(i:Int)]:=by rw [risingN_succ,if_pos (by rw [gd];exact hq)]
   refine hK (i+1,.slice (h3.next+1) 0 ((risingN bs i).length+1) ((risingN bs i).length+1) 1) _ _ (by simp;omega) (by simp) ⟨by simp;omega,e3,⟨by have:=le3.next;omega,fun j x e=>kp j (fun hj=>?_) x (le3.get j x e)⟩,?_,fun j hj=>?_⟩
   ·have:=ga j hj;have:=hw.lt e;omega
   ·simp only [em,List.length_append,List.length_singleton,List.map_append]
    exact e2
   ·simp [blkOf] at hj;have:=le3.next;omega
  ·have em:risingN bs (i+1)=risingN bs i:=by rw [risingN_succ,if_neg (by rw [gd,hq];simp),List.append_nil]
   simp [wr]
   refine hK (i+1,a) _ _ (by simp;omega) (by simp) ⟨by simp;omega,w3,le3,?_,ga⟩
   simp only [em];exact oa
 ·have:i=bs.length:=by omega
  subst this
  simp
  intro w
  exact H h3 a w le3 oa ga
end Go.Ab.Z
namespace Go.Ab.Z
open Go Go.Ab
variable {h h':AHeap} {k:Post} {fe le en mo:AVal} {A:PAlpha} {X:PAuto}
structure WaysR (h:AHeap) (bv:AVal) (L st:Nat) (rb:List Nat) (vv:Nat->Nat->AVal) (f:Int×Int->List Int):Prop where
 out:ORow h 1 bv st (rb.map (rowS L))
 rows:∀ (i:Nat) (hi:i < rb.length),Blk h rb[i] ((List.range L).map (vv i))
 els:∀ i k:Nat,i < st->k < L->ORow h 1 (vv i k) (f ((i:Int),(k:Int))).length ((f ((i:Int),(k:Int))).map vI)
 nd:(blkOf bv++rb).Nodup
 ap:∀ i k:Nat,i < st->k < L->∀ j∈blkOf (vv i k),j∉blkOf bv++rb
 sep:∀ i k i' k':Nat,i < st->k < L->i' < st->k' < L->(i,k)≠(i',k')->∀ j∈blkOf (vv i k),j∉blkOf (vv i' k')
section
variable {bv:AVal} {L st:Nat} {rb:List Nat} {vv:Nat->Nat->AVal} {f:Int×Int->List Int}
theorem WaysR.nrb (W:WaysR h bv L st rb vv f):rb.length=st:=by have:=W.out.1;simpa using this
theorem WaysR.mono (W:WaysR h bv L st rb vv f) (l:Hle h h'):WaysR h' bv L st rb vv f :=
 ⟨W.out.mono l,fun i hi=>(W.rows i hi).mono l,fun i k h1 h2=>(W.els i k h1 h2).mono l,W.nd,W.ap,W.sep⟩
theorem WaysR.at (W:WaysR h bv L st rb vv f) {i c:Nat} (hi:i < st) (hc:c < L):∃ b,rb[i]?=some b/\indexAddrS 1 bv (.int .i64 (i:Int))=some (.ptr (rowB bv) i)/\h.read1 (rowB bv) i=some (rowS L b)/\indexAddrS 1 (rowS L b) (.int .i64 (c:Int))=some (.ptr b c)/\h.read1 b c=some (vv i c):=by
 have hr:i < rb.length:=by rw [W.nrb];exact hi
 obtain ⟨i1,i2⟩:=orow_at W.out hi (c:=rowS L rb[i]) (by simp [hr]) rfl
 exact ⟨rb[i],by simp [hr],i1,i2,by simp [rowS,indexAddrS,Nat.succ_le_iff,hc],(W.rows i hr).rd1 (by simp [hc])⟩
theorem WaysR.push (W:WaysR h bv L st rb vv f) (w:WF h) {h₀:AHeap} (l₀:Hle h₀ h) (w₀:WF h₀) (g1:∀ j∈blkOf bv++rb,h₀.next<=j) (g2:∀ i k:Nat,i < st->k < L->∀ j∈blkOf (vv i k),h₀.next<=j) {i c:Nat} (hi:i < st) (hc:c < L) (x:Int) (hn:(f ((i:Int),(c:Int))).length < 60000000) :
  ∃ b h2 h3 n,rb[i]?=some b/\n=(f ((i:Int),(c:Int))).length/\appendA (h.newCells [.int .i64 x]) 1 (vv i c) (.slice h.next 0 1 1 1)=some (some (.slice (h.next+1) 0 (n+1) (n+1) 1),h2)/\h2.write b c [.slice (h.next+1) 0 (n+1) (n+1) 1]=some h3/\WF h3/\Hle h₀ h3 /\
   (h2.read1 (rowB bv) i=some (rowS L b)) /\
   WaysR h3 bv L st rb (fun i' c'=>if i'=i/\c'=c then .slice (h.next+1) 0 (n+1) (n+1) 1 else vv i' c') (pushF f ((i:Int),(c:Int)) x)/\h₀.next<=h.next+1/\∀ j,j∉blkOf (vv i c)->Kp h h2 j:=by
 have hr:i < rb.length:=by rw [W.nrb];exact hi
 have o:=W.els i c hi hc
 obtain ⟨h2,a1,a2,w2,n2,kp⟩:=orow_push o w [vI x] rfl (by omega) rfl
 have hap:=W.ap i c hi hc
 have rowk:=Blk.kp (W.rows i hr) (kp rb[i] fun hj=>hap _ hj (by simp [List.getElem_mem hr]))
 obtain ⟨h3,b1,b2,b3⟩:=rowk.write1 (i:=c) (c:=.slice (h.next+1) 0 ((f ((i:Int),(c:Int))).length+1) ((f ((i:Int),(c:Int))).length+1) 1) (by simpa using hc) rfl
 have hmem:rb[i]∈rb:=List.getElem_mem hr
 have nd:=List.nodup_append.1 W.nd
 have hrl:rb[i] < h.next:=(W.rows i hr).lt w
 have kp3:∀ j,j∉blkOf (vv i c)->j≠rb[i]->Kp h h3 j:=fun j h1 h2=>Kp.trans (kp j h1) (But.kp b3 h2)
 have l0:=l₀.next
 refine ⟨rb[i],h2,h3,_,by simp [hr],rfl,a1,b1,b3.wf w2 (by omega),⟨by rw [b3.next];omega,fun j y e=>kp3 j (fun hj=>?_) (fun e2=>?_) y (l₀.get j y e)⟩,?_,⟨?_,fun i' hi'=>?_,fun i' c' h1 h2=>?_,W.nd,fun i' c' h1 h2 j hj=>?_,fun i1 c1 i2 c2 h1 h2 h3 h4 hne j hj hj'=>?_⟩,by omega,kp⟩
 ·have:=g2 i c hi hc j hj;have:=w₀.lt e;omega
 ·subst e2;have:=g1 rb[i] (by simp [hmem]);have:=w₀.lt e;omega
 ·have o2:ORow h2 1 bv st (rb.map (rowS L)):=own_kp W.out fun j hj=>kp j fun e=>hap j e (by simp [hj])
  exact (orow_at o2 hi (c:=rowS L rb[i]) (by simp [hr]) rfl).2
 ·exact own_kp W.out fun j hj=>kp3 j (fun e=>hap j e (by simp [hj])) (fun e=>nd.2.2 j hj rb[i] hmem e)
 ·by_cases hii:i'=i
  ·subst hii
   have e0:(List.range L).map (fun c'=>if i'=i'/\c'=c then (.slice (h.next+1) 0 ((f ((i':Int),(c:Int))).length+1) ((f ((i':Int),(c:Int))).length+1) 1:AVal) else vv i' c')=((List.range L).map (vv i')).set c (.slice (h.next+1) 0 ((f ((i':Int),(c:Int))).length+1) ((f ((i':Int),(c:Int))).length+1) 1):=by
    apply List.ext_getElem (by simp)
    intro y h1 h2
    simp only [List.getElem_map,List.getElem_range,List.getElem_set]
    by_cases hy:c=y
    ·simp [hy]
    ·rw [if_neg (fun e=>hy e.2.symm),if_neg hy]
   rw [e0];exact b2
  ·have e0:(List.range L).map (fun c'=>if i'=i/\c'=c then (.slice (h.next+1) 0 ((f ((i:Int),(c:Int))).length+1) ((f ((i:Int),(c:Int))).length+1) 1:AVal) else vv i' c')=(List.range L).map (vv i'):=by
    apply List.map_congr_left
    intro y _
    rw [if_neg (fun e=>hii e.1)]
   rw [e0]
   refine Blk.kp (W.rows i' hi') (kp3 _ (fun e=>hap _ e (by simp [List.getElem_mem hi'])) fun e=>?_)
   exact nodup_ne nd.2.1 hi' hr hii e
 ·unfold pushF
  by_cases he:i'=i/\c'=c
  ·obtain ⟨rfl,rfl⟩:=he
   rw [if_pos ⟨rfl,rfl⟩,if_pos rfl,List.length_append,List.length_singleton,List.map_append]
   exact own_kp a2 fun j hj=>But.kp b3 (by simp [blkOf] at hj;omega)
  ·rw [if_neg he,if_neg (fun e=>he (by simp at e;omega))]
   exact own_kp (W.els i' c' h1 h2) fun j hj=>kp3 j (fun e=>W.sep i' c' i c h1 h2 hi hc (fun e2=>he (by simpa using e2)) j hj e) (fun e=>W.ap i' c' h1 h2 j hj (by rw [e];simp [hmem]))
 ·have own_l:∀ j∈blkOf bv++rb,j < h.next:=by
   intro j hj
   rcases List.mem_append.1 hj with h5 | h5
   ·exact own_lt W.out w j h5
   ·obtain ⟨y,hy,rfl⟩:=List.getElem_of_mem h5
    exact (W.rows y hy).lt w
  by_cases he:i'=i/\c'=c
  ·rw [if_pos he] at hj
   simp [blkOf] at hj;subst hj
   exact fun e=>by have:=own_l _ e;omega
  ·rw [if_neg he] at hj
   exact W.ap i' c' h1 h2 j hj
 ·have elt:∀ i' c',i' < st->c' < L->∀ j∈blkOf (vv i' c'),j < h.next:=fun i' c' h1 h2=>own_lt (W.els i' c' h1 h2) w
  by_cases he:i1=i/\c1=c
  ·have he2:¬ (i2=i/\c2=c):=fun e=>hne (by rw [he.1,he.2,e.1,e.2])
   rw [if_pos he] at hj
   rw [if_neg he2] at hj'
   simp [blkOf] at hj;subst hj
   have:=elt i2 c2 h3 h4 _ hj';omega
  ·rw [if_neg he] at hj
   by_cases he2:i2=i/\c2=c
   ·rw [if_pos he2] at hj'
    simp [blkOf] at hj';subst hj'
    have:=elt i1 c1 h1 h2 _ hj;omega
   ·rw [if_neg he2] at hj'
    exact W.sep i1 c1 i2 c2 h1 h2 h3 h4 hne j hj hj'
end
end Go.Ab.Z
namespace Go.Ab.Z
open Go Go.Ab
variable {h h':AHeap} {k:Post} {fe le en mo:AVal} {A:PAlpha} {X:PAuto}
@[simp] theorem sameV_slice (b o l c z:Nat):sameV (.slice b o l c z) (.slice b o l c z)=true:=by simp [sameV,same1]
@[simp] theorem sameV_bool (b:Bool):sameV (.bool b) (.bool b)=true:=by simp [sameV,same1]
theorem fresh_row (h:AHeap) (n:Nat) (c:AVal):ORow (h.newCells (List.replicate n c)) 1 (.slice h.next 0 n n 1) n (List.replicate n c):=ORow.fresh h (sz:=1) (n:=n) (cs:=List.replicate n c) (by simp)
theorem f82 {st:Nat} (hst:X.states=(st:Int)) (hA:IsAlpha h fe le A) (hX:IsAuto h en mo X) (ha:AlphaOk A) (hx:AutoOk A X)
  (H:∀ h' bv rb vv,WF h'->Hle h h'->WaysR h' bv A.letters.length st rb vv (byM A X.moves)->k bv h'):Cf 82 [.agg [fe,le],aV X.states en mo] h k:=by
 unfold aV
 rw [hst]
 refine use_code compiled82 fun hw=>?_
 have hL1:=ha.1.2.1
 have hL:=ha.1.2.2
 have hs1:=hx.1.1
 have hs2:=hx.1.2.1
 have hs3:=hx.1.2.2
 have w1:=hw.newCells [fe,le]
 have le1:=Hle.newCells hw [fe,le]
 have w2:=w1.newCells [.int .i64 (st:Int),en,mo]
 have le2:=Hle.newCells w1 [.int .i64 (st:Int),en,mo]
 have leh:=le1.trans le2
 have va:=(Blk.new h [fe,le]).mono le2
 have vx:=Blk.new (h.newCells [fe,le]) [.int .i64 (st:Int),en,mo]
 simp only [next_newCells] at vx
 have rs:=vx.rd1 (i:=0) (c:=.int .i64 (st:Int)) rfl
 have alen:=hA.llen
 simp [fn82,rs,repeatL_one]
 rw [decide_eq_true (by omega:st<=16777216)]
 simp
 generalize hg0:(h.newCells [fe,le]).newCells [.int .i64 (st:Int),en,mo]=g0 at *
 have gn:g0.next=h.next+2:=by rw [<-hg0];simp
 have w3:=w2.newCells (List.replicate st .nils)
 have le3:=Hle.newCells w2 (List.replicate st .nils)
 have o0:=fresh_row g0 st .nils
 rw [L82_1]
 refine loop_by (σ:=Nat) (fun i h'=>i<=st/\WF h'/\Hle g0 h'/\∃ rb:List Nat,rb.length=i/\ORow h' 1 (.slice g0.next 0 st st 1) st (rb.map (rowS A.letters.length)++List.replicate (st - i) AVal.nils)/\(∀ (y:Nat) (hy:y < rb.length),Blk h' rb[y] (List.replicate A.letters.length .nils))/\(g0.next :: rb).Nodup/\∀ j∈rb,g0.next<=j)
  (fun i=>[(2,.ptr h.next 0),(3,.ptr (h.next+1) 0),(5,.slice g0.next 0 st st 1),(6,.int .i64 i)]) (fun i=>st - i) 0 (by simp [gn]) ?_ ?_
 ·exact ⟨Nat.zero_le _,w3,le3,[],rfl,by simpa using o0,fun y hy=>by simp at hy,by simp,fun j hj=>by simp at hj⟩
 clear w3 le3 o0
 rintro i h4 K ⟨hi,w4,le4,rb,hrb,ou,rows,nd,gb⟩ hK
 have rs4:=(vx.mono le4).rd1 (i:=0) (c:=.int .i64 (st:Int)) rfl
 simp [rs4]
 refine ap_split (fun hc=>?_) (fun hc=>?_)
 ·have hc:i < st:=by omega
  have rl:=(va.mono le4).rd1 (i:=1) (c:=le) rfl
  have wr:wrapF .i64 ((i:Int)+1)=(i:Int)+1:=wrap64 (by omega) (by omega)
  simp [rl,alen,repeatL_one]
  rw [decide_eq_true (by omega:A.letters.length<=16777216)]
  have w5:=w4.newCells (List.replicate A.letters.length .nils)
  have le5:=Hle.newCells w4 (List.replicate A.letters.length .nils)
  have b5:=Blk.new h4 (List.replicate A.letters.length .nils)
  have o5:=ou.mono le5
  have i1:=o5.idx hc .i64
  rw [Nat.mul_one] at i1
  obtain ⟨h6,a1,a2,a3⟩:=o5.write1 (i:=i) (c:=.slice h4.next 0 A.letters.length A.letters.length 1) hc rfl
  simp only [rowB_s] at i1 a1 a3
  simp [i1,a1,wr]
  have gl:=own_lt ou w4 g0.next (by simp [blkOf])
  refine hK (i+1) _ _ (by omega) (by simp) ⟨by omega,a3.wf w5 (by simp;omega),a3.hle (le4.trans le5) w2 (Nat.le_refl _),rb++[h4.next],by simp [hrb],?_,fun y hy=>?_,?_,fun j hj=>?_⟩
  ·have e:(rb.map (rowS A.letters.length)++List.replicate (st - i) AVal.nils).set i (.slice h4.next 0 A.letters.length A.letters.length 1)=(rb++[h4.next]).map (rowS A.letters.length)++List.replicate (st - (i+1)) AVal.nils:=by
    rw [List.set_append,if_neg (by simp [hrb]),show st - i=(st - (i+1))+1 by omega,List.replicate_succ]
    simp [hrb,rowS]
   rw [e] at a2;exact a2
  ·by_cases hy':y < rb.length
   ·rw [List.getElem_append_left hy']
    refine Blk.kp ((rows y hy').mono le5) (But.kp a3 fun e=>?_)
    exact (List.nodup_cons.1 nd).1 (e ▸ List.getElem_mem hy')
   ·rw [List.getElem_append_right (by omega)]
    simp
    exact Blk.kp b5 (But.kp a3 (by omega))
  ·have hn4:∀ j∈rb,j < h4.next:=fun j hj=>by obtain ⟨y,hy,rfl⟩:=List.getElem_of_mem hj;exact (rows y hy).lt w4
   rw [<-List.cons_append,List.nodup_append]
   exact ⟨nd,by simp,fun a ha c hc e=>by
    simp at hc;subst hc
    rcases List.mem_cons.1 ha with h1 | h1
    ·omega
    ·have:=hn4 a h1;omega⟩
  ·rcases List.mem_append.1 hj with h1 | h1
   ·exact gb j h1
   ·simp at h1;have:=le4.next;omega
 ·have hist:i=st:=by omega
  clear hc hK
  rw [hist] at ou hrb
  have W0:WaysR h4 (.slice g0.next 0 st st 1) A.letters.length st rb (fun _ _=>.nils) (byM A (X.moves.take 0)):=by
   refine ⟨by simpa using ou,fun y hy=>?_,fun i k _ _=>by simpa [byM] using ORow.nil _ _,by simpa [blkOf] using nd,fun i k _ _ j hj=>(by cases hj),fun i k i' k' _ _ _ _ _ j hj=>(by cases hj)⟩
   have:=rows y hy
   have e:(List.range A.letters.length).map (fun _=>(.nils:AVal))=List.replicate A.letters.length .nils:=by simp [List.map_const']
   rw [e];exact this
  have gB:∀ j∈blkOf (.slice g0.next 0 st st 1)++rb,g0.next<=j:=fun j hj=>by
   simp only [blkOf,List.cons_append,List.nil_append,List.mem_cons] at hj
   rcases hj with h1 | h1
   ·omega
   ·exact gb j h1
  have ml:=hX.mo.len
  simp only [List.length_map] at ml
  simp
  rw [L82_2]
  refine loop_by (σ:=Nat) (fun i h'=>i<=X.moves.length/\WF h'/\Hle g0 h'/\∃ vv,WaysR h' (.slice g0.next 0 st st 1) A.letters.length st rb vv (byM A (X.moves.take i))/\∀ i k:Nat,i < st->k < A.letters.length->∀ j∈blkOf (vv i k),g0.next<=j)
   (fun i=>[(2,.ptr h.next 0),(3,.ptr (h.next+1) 0),(5,.slice g0.next 0 st st 1),(7,.int .i64 i)]) (fun i=>X.moves.length - i) 0 (by simp) ?_ ?_
  ·exact ⟨Nat.zero_le _,w4,le4,_,W0,fun i k _ _ j hj=>by cases hj⟩
  clear W0 ou rows rs4 le4 w4 h4 nd gb i hi hist
  rintro i h4 K ⟨hi,w4,le4,vv,W,gV⟩ hK
  have rs4:=(vx.mono le4).rd1 (i:=2) (c:=mo) rfl
  simp [rs4,ml]
  refine ap_split (fun hq=>?_) (fun hq=>?_)
  ·have hq:i < X.moves.length:=by omega
   have hmo:=hx.2.2.1 X.moves[i] (List.getElem_mem hq)
   have b1:=hX.mo.idx (i:=i) (by simpa using hq) .i64
   have b2:=(hX.mo.mono (leh.trans le4)).rd (i:=i) (l:=X.moves[i].cells) (by simp [hq])
   have e0:byM A (X.moves.take (i+1))=pushF (byM A (X.moves.take i)) (keyM A X.moves[i]) X.moves[i].dst:=by rw [List.take_succ_eq_append_getElem hq,byM_snoc]
   have bl:=byM_len' A (X.moves.take i) (keyM A X.moves[i])
   rw [List.length_take] at bl
   generalize X.moves[i]=mv at *
   obtain ⟨m1,m2,m3⟩:=hmo
   unfold inS at m1 m2
   simp only [decide_eq_true_eq] at m1 m2
   obtain ⟨src,hsrc⟩:=Int.eq_ofNat_of_zero_le m1.1
   have hsl:src < st:=by omega
   obtain ⟨c,hcl,hcr⟩:∃ c:Nat,c < A.letters.length/\number A.letters mv.rune 0=(c:Int):=by
    rcases number_ge A.letters mv.rune 0 with h2 | h2
    ·exact absurd h2 m3
    ·exact ⟨(number A.letters mv.rune 0).toNat,by omega,by omega⟩
   have km:keyM A mv=((src:Int),(c:Int)):=by unfold keyM rankOf;rw [hcr,if_neg (by omega),hsrc];rfl
   rw [km] at e0 bl
   have w5:=w4.newCells [.int .i64 0,.int .i64 0,.int .i32 0]
   have le5:=Hle.newCells w4 [.int .i64 0,.int .i64 0,.int .i32 0]
   obtain ⟨h6,c1,c2,c3⟩:=(Blk.new h4 [.int .i64 0,.int .i64 0,.int .i32 0]).write (off:=0) (vs:=mv.cells) (by simp) rfl
   have le6:=c3.hle le5 w4 (Nat.le_refl _)
   have w6:=c3.wf w5 (by simp)
   have c2:Blk h6 h4.next mv.cells:=by simpa using c2
   have c1:(h4.newCells [.int .i64 0,.int .i64 0,.int .i32 0]).write h4.next 0 [.int .i64 mv.src,.int .i64 mv.dst,.int .i32 mv.rune]=some h6:=c1
   have b2:h4.read (rowB mo) (rowO mo+i*3) 3=some [.int .i64 mv.src,.int .i64 mv.dst,.int .i32 mv.rune]:=b2
   have d2:=c2.rd1 (i:=2) (c:=.int .i32 mv.rune) rfl
   have ra:=((va.mono le4).mono le6).rd (off:=0) (n:=2) (l:=[fe,le]) (by simp) rfl
   have wr:wrapF .i64 ((i:Int)+1)=(i:Int)+1:=wrap64 (by omega) (by omega)
   simp [rs4,b1,b2,c1,ra,d2]
   refine f76 (hA.mono (leh.trans (le4.trans le6))) fun h7 w7 le7=>?_
   rw [hcr]
   have le47:=le6.trans le7
   have W7:=W.mono le47
   have c7:=c2.mono le7
   have d0:=c7.rd1 (i:=0) (c:=.int .i64 mv.src) rfl
   have d1:=c7.rd1 (i:=1) (c:=.int .i64 mv.dst) rfl
   rw [hsrc] at d0
   obtain ⟨b,hb,i1,i2,i3,i4⟩:=W7.at hsl hcl
   simp only [rowB_s] at i1 i2
   have le8:=Hle.newCells w7 [.int .i64 mv.dst]
   obtain ⟨b',hb',j1,j2,j3,j4⟩:=(W7.mono le8).at hsl hcl
   obtain rfl:b'=b:=Option.some.inj (hb'.symm.trans hb)
   obtain ⟨b'',h9,h10,n,k0,k1,k2,k3,k4,k5,k6,k7,k8,k9⟩:=W7.push w7 (le4.trans le47) w2 gB gV hsl hcl mv.dst (by omega)
   obtain rfl:b''=b':=Option.some.inj (k0.symm.trans hb)
   subst k1
   have d0':=(c7.mono le8).rd1 (i:=0) (c:=.int .i64 mv.src) rfl
   rw [hsrc] at d0'
   have sv:sameV (vv src c) (vv src c)=true:=same_orow (W7.els src c hsl hcl)
   simp only [rowB_s] at j2 k6
   have sS:∀ b:Nat,sameV (rowS A.letters.length b) (rowS A.letters.length b)=true:=fun b=>by simp [rowS,sameV,same1]
   simp only [rowS] at *
   have nvv:h4.next∉blkOf (vv src c):=fun hj=>by have:=own_lt (W.els src c hsl hcl) w4 _ hj;omega
   have d0'':=(Blk.kp c7 (k9 _ nvv)).rd1 (i:=0) (c:=.int .i64 mv.src) rfl
   rw [hsrc] at d0''
   simp only [rowB_s] at j1
   simp [d0,d1,i1,i2,i3,i4,listPut,j1,j2,j3,j4,d0',d0'',sv,k2,k6,k3,wr]
   refine hK (i+1) _ _ (by omega) (by simp) ⟨by omega,k4,k5,(fun i' c'=>if i'=src/\c'=c then .slice (h7.next+1) 0 ((byM A (List.take i X.moves) ((src:Int),(c:Int))).length+1) ((byM A (List.take i X.moves) ((src:Int),(c:Int))).length+1) 1 else vv i' c'),?_,fun i' c' h1 h2 j hj=>?_⟩
   ·rw [e0];exact k7
   ·simp only at hj
    by_cases he:i'=src/\c'=c
    ·rw [if_pos he] at hj
     simp [blkOf] at hj;omega
    ·rw [if_neg he] at hj
     exact gV i' c' h1 h2 j hj
  ·have:i=X.moves.length:=by omega
   subst this
   rw [List.take_length] at W
   simp
   intro w
   exact H h4 _ rb vv w (leh.trans le4) W
end Go.Ab.Z
namespace Go.Ab.Z
open Go Go.Ab
def marksL (f:Int×Int->List Int) (st:Nat) (l:KL) (k:Nat):List Bool:=(List.range st).map fun j:Nat=>l.any fun s=>decide ((j:Int)∈f (s,(k:Int)))
def nextL (f:Int×Int->List Int) (st:Nat) (l:KL) (k:Nat):Option KL:=if risingL (marksL f st l k)=[] then none else some (risingL (marksL f st l k))
def finL (ends:List Int) (l:KL):Bool:=l.any fun s=>decide (s∈ends)
def grR (A:PAlpha) (X:PAuto):BS KL:=runU (nextL (byM A X.moves) X.states.toNat) A.letters.length 4098 0 (begU A.letters.length [0])
theorem hasW_addW:∀ (ts:List Int) (s:List Nat),SetW s->(∀ t∈ts,0<=t/\t < 4096)->∀ j:Nat,hasW (addW ts s) j=(hasW s j || decide ((j:Int)∈ts))
 | [],s,_,_,j=>by simp [addW]
 | t :: ts,s,hs,ht,j=>by
  have h0:=ht t (by simp)
  show hasW (addW ts (putW s t.toNat)) j=_
  rw [hasW_addW ts _ (hs.put _) (fun x hx=>ht x (by simp [hx])) j,hasW_put hs (by omega)]
  have e:(j=t.toNat)↔((j:Int)=t):=by omega
  rw [Bool.eq_iff_iff]
  simp only [Bool.or_eq_true,decide_eq_true_eq,List.mem_cons,e]
  constructor
  ·rintro ((h | h) | h)<;>simp [h]
  ·rintro (h | h | h)<;>simp [h]
theorem mem_membersW {ws:List Nat} {st:Nat} {x:Int}:x∈membersW ws st↔∃ n:Nat,n < st/\hasW ws n=true/\x=(n:Int):=by
 unfold membersW
 simp only [List.mem_map,List.mem_filter,List.mem_range]
 exact ⟨fun ⟨n,⟨h1,h2⟩,h3⟩=>⟨n,h1,h2,h3.symm⟩,fun ⟨n,h1,h2,h3⟩=>⟨n,⟨h1,h2⟩,h3.symm⟩⟩
section
variable {f:Int×Int->List Int} {st:Nat}
theorem has_next (hst:st<=4096) (hf:∀ p,∀ t∈f p,0<=t/\t < (st:Int)) (a:Kw) (k:Nat) (j:Nat):hasW (nextW f st a.1 (k:Int)) j=(membersW a.1 st).any fun s=>decide ((j:Int)∈f (s,(k:Int))):=by
 unfold nextW
 rw [hasW_addW _ _ emptyW_ok (fun t ht=>by
  obtain ⟨s,_,h2⟩:=List.mem_flatMap.1 ht
  have:=hf _ t h2;omega),hasW_empty,Bool.false_or]
 rw [Bool.eq_iff_iff]
 simp only [decide_eq_true_eq,List.mem_flatMap,List.any_eq_true]
theorem next_in (hst:st<=4096) (hf:∀ p,∀ t∈f p,0<=t/\t < (st:Int)) (a:Kw) (k:Nat) {j:Nat} (h:hasW (nextW f st a.1 (k:Int)) j=true):j < st:=by
 rw [has_next hst hf a k j,List.any_eq_true] at h
 obtain ⟨s,_,h2⟩:=h
 simp only [decide_eq_true_eq] at h2
 have:=hf _ _ h2;omega
theorem members_next (hst:st<=4096) (hf:∀ p,∀ t∈f p,0<=t/\t < (st:Int)) (a:Kw) (k:Nat):membersW (nextW f st a.1 (k:Int)) st=risingL (marksL f st (membersW a.1 st) k):=by
 have hn:=has_next hst hf a k
 have eq:membersW (nextW f st a.1 (k:Int)) st=((List.range st).filter fun i=>hasW (nextW f st a.1 (k:Int)) i).map fun i:Nat=>(i:Int):=rfl
 rw [eq]
 generalize membersW a.1 st=ms at *
 unfold risingL
 have hl:(marksL f st ms k).length=st:=by simp [marksL]
 rw [hl]
 congr 1
 apply List.filter_congr
 intro j hj
 rw [List.mem_range] at hj
 rw [hn j]
 unfold marksL
 rw [List.getD_eq_getElem?_getD,List.getElem?_map,List.getElem?_range hj]
 rfl
theorem next_map (hst:st<=4096) (hf:∀ p,∀ t∈f p,0<=t/\t < (st:Int)) (a:Kw) (k:Nat):nextL f st (membersW a.1 st) k=(nextK f st a k).map fun b:Kw=>membersW b.1 st:=by
 have mn:=members_next hst hf a k
 unfold nextL nextK
 by_cases h:nextW f st a.1 (k:Int)=emptyW
 ·have e:risingL (marksL f st (membersW a.1 st) k)=[]:=by
   rw [<-mn,h]
   apply List.eq_nil_iff_forall_not_mem.2
   intro x hx
   obtain ⟨n,_,h2,_⟩:=mem_membersW.1 hx
   rw [hasW_empty] at h2;cases h2
  rw [if_pos e,if_pos h];rfl
 ·have e:risingL (marksL f st (membersW a.1 st) k)≠[]:=by
   intro e
   apply h
   refine setW_ext (addW_ok emptyW_ok) emptyW_ok fun j hj=>?_
   rw [hasW_empty]
   cases hh:hasW (nextW f st a.1 (k:Int)) j with
   | false=>rfl
   | true =>
    have hlt:=next_in hst hf a k hh
    have:(j:Int)∈membersW (nextW f st a.1 (k:Int)) st:=mem_membersW.2 ⟨j,hlt,hh,rfl⟩
    rw [mn,e] at this;cases this
  rw [if_neg e,if_neg h,<-mn];rfl
end
def InW (st:Nat) (a:Kw):Prop:=∀ j,hasW a.1 j=true->j < st
theorem members_inj {st:Nat} (a b:Kw) (ha:InW st a) (hb:InW st b) (h:membersW a.1 st=membersW b.1 st):a=b:=by
 apply Subtype.ext
 refine setW_ext a.2 b.2 fun j _=>?_
 have key:∀ (a b:Kw),InW st a->membersW a.1 st=membersW b.1 st->hasW a.1 j=true->hasW b.1 j=true:=by
  intro a b ha h hj
  have:(j:Int)∈membersW a.1 st:=mem_membersW.2 ⟨j,ha j hj,hj,rfl⟩
  rw [h] at this
  obtain ⟨n,_,h2,h3⟩:=mem_membersW.1 this
  have:j=n:=by omega
  subst this;exact h2
 rw [Bool.eq_iff_iff]
 exact ⟨key a b ha h,key b a hb h.symm⟩
theorem gr_det {A:PAlpha} {X:PAuto} (hx:AutoOk A X):grR A X=(detR A X).map (fun a:Kw=>membersW a.1 X.states.toNat)/\(grR A X).w.map (finL X.ends)=detE A X:=by
 obtain ⟨hs1,hs2⟩:1<=X.states/\X.states<=4096:=⟨hx.1.1,hx.1.2.1⟩
 have hst:X.states.toNat<=4096:=by omega
 have hf:∀ p,∀ t∈byM A X.moves p,0<=t/\t < (X.states.toNat:Int):=fun p t ht=>by
  obtain ⟨mv,h1,h2⟩:=byM_mem' A ht
  have:=(hx.2.2.1 mv h1).2.1
  unfold inS at this
  simp only [decide_eq_true_eq] at this
  omega
 have hP:∀ (a:Kw) (k:Nat) (b:Kw),InW X.states.toNat a->nextK (byM A X.moves) X.states.toNat a k=some b->InW X.states.toNat b:=by
  intro a k b _ h
  unfold nextK at h
  split at h
  ·cases h
  ·cases h
   exact fun j hj=>next_in hst hf a k hj
 have h0:∀ x∈(begU A.letters.length sZ).w,InW X.states.toNat x:=by
  intro x hx' j hj
  simp [begU] at hx'
  subst hx'
  have:hasW (putW emptyW 0) j=true:=hj
  rw [hasW_put emptyW_ok (by omega),hasW_empty] at this
  simp at this;omega
 have e0:(begU A.letters.length sZ).map (fun a:Kw=>membersW a.1 X.states.toNat)=begU A.letters.length [0]:=by
  unfold BS.map begU
  congr 1
  simp only [List.map_cons,List.map_nil]
  congr 1
  obtain ⟨n,hn⟩:∃ n,X.states.toNat=n+1:=⟨X.states.toNat - 1,by omega⟩
  rw [hn]
  unfold membersW
  rw [List.range_succ_eq_map,List.filter_cons_of_pos (by show hasW (putW emptyW 0) 0=true;rw [hasW_put emptyW_ok (by omega)];simp)]
  rw [List.filter_eq_nil_iff.2]
  ·rfl
  ·intro x hx'
   obtain ⟨y,_,rfl⟩:=List.mem_map.1 hx'
   show ¬ hasW (putW emptyW 0) (y+1)=true
   rw [hasW_put emptyW_ok (by omega),hasW_empty];simp
 obtain ⟨r1,r2⟩:=runU_map (next:=nextK (byM A X.moves) X.states.toNat) (next':=nextL (byM A X.moves) X.states.toNat) (L:=A.letters.length) (f:=fun a:Kw=>membersW a.1 X.states.toNat) (P:=InW X.states.toNat) (fun a b ha hb h=>members_inj a b ha hb h) (fun a k _=>next_map hst hf a k) hP 4098 0 h0
 rw [e0] at r1
 refine ⟨r1,?_⟩
 show (grR A X).w.map (finL X.ends)=(detR A X).w.map (finK X.ends)
 have e1:(grR A X).w=(detR A X).w.map fun a:Kw=>membersW a.1 X.states.toNat:=congrArg BS.w r1
 rw [e1,List.map_map]
 apply List.map_congr_left
 intro a ha
 have hin:=r2 a ha
 show finL X.ends (membersW a.1 X.states.toNat)=finK X.ends a
 unfold finL finK
 rw [Bool.eq_iff_iff]
 simp only [List.any_eq_true,decide_eq_true_eq]
 constructor
 ·rintro ⟨s,h1,h2⟩
  obtain ⟨n,_,h4,h5⟩:=mem_membersW.1 h1
  exact ⟨s,h2,by rw [h5];exact h4⟩
 ·rintro ⟨s,h1,h2⟩
  obtain ⟨i,hi,rfl⟩:=List.getElem_of_mem h1
  have:=(hx.2.1 i hi).1
  unfold inS at this
  simp only [decide_eq_true_eq] at this
  exact ⟨_,mem_membersW.2 ⟨X.ends[i].toNat,by omega,h2,by omega⟩,h1⟩
def BlankU {κ:Type} (L n c:Nat) (s:BS κ):Prop:=(∀ i,n < i->i < s.R.length->s.R[i]?=some (List.replicate L (-1)))/\∀ c',c<=c'->(s.R.getD n []).getD c' (-1)=-1
theorem setRC_same {R:List (List Int)} {n c:Nat} (h:(R.getD n []).getD c (-1)=-1):setRC R n c (-1)=R:=by
 unfold setRC
 have e:(R.getD n []).set c (-1)=R.getD n []:=by
  by_cases hc:c < (R.getD n []).length
  ·have:(R.getD n [])[c]=-1:=by rw [List.getD_eq_getElem?_getD,List.getElem?_eq_getElem hc] at h;exact h
   apply List.ext_getElem (by simp)
   intro i h1 h2
   rw [List.getElem_set]
   split
   ·rename_i hi;subst hi;exact this.symm
   ·rfl
  ·exact List.set_eq_of_length_le (by omega)
 rw [e]
 by_cases hn:n < R.length
 ·apply List.ext_getElem (by simp)
  intro i h1 h2
  rw [List.getElem_set]
  split
  ·rename_i hi;subst hi;rw [List.getD_eq_getElem?_getD,List.getElem?_eq_getElem hn];rfl
  ·rfl
 ·exact List.set_eq_of_length_le (by omega)
theorem BlankU.set {κ:Type} {L n c:Nat} {s:BS κ} {w:List κ} {x:Int} {t:Nat} (h:BlankU L n c s):BlankU L n (c+1) (⟨w,setRC s.R n c x,t⟩:BS κ):=by
 refine ⟨fun i h1 h2=>?_,fun c' hc'=>?_⟩
 ·simp only [setRC_length] at h2
  unfold setRC
  rw [List.getElem?_set_ne (by omega)]
  exact h.1 i h1 h2
 ·have:=h.2 c' (by omega)
  unfold setRC
  by_cases hn:n < s.R.length
  ·rw [List.getD_eq_getElem?_getD (l:=s.R.set n _),List.getElem?_set_self hn,Option.getD_some,List.getD_eq_getElem?_getD,List.getElem?_set_ne (by omega),<-List.getD_eq_getElem?_getD]
   exact this
  ·rw [List.set_eq_of_length_le (by omega)];exact this
theorem BlankU.step {κ:Type} [DecidableEq κ] {next:κ->Nat->Option κ} {L n c:Nat} {s:BS κ} (h:BlankU L n c s) (hn:n < s.R.length):BlankU L n (c+1) (stepU next L n s c):=by
 unfold stepU
 split
 ·exact ⟨h.1,fun c' hc'=>h.2 c' (by omega)⟩
 ·split
  ·exact ⟨h.1,fun c' hc'=>h.2 c' (by omega)⟩
  ·rename_i t _
   by_cases ht:t∈s.w
   ·rw [addU_old L ht];exact h.set
   ·rw [addU_new L ht]
    have h2:BlankU L n c (⟨s.w,s.R++[List.replicate L (-1)],s.st⟩:BS κ):=by
     refine ⟨fun i h1 h2=>?_,fun c' hc'=>?_⟩
     ·simp only [List.length_append,List.length_singleton] at h2
      by_cases hi:i < s.R.length
      ·simp only;rw [List.getElem?_append_left hi];exact h.1 i h1 hi
      ·simp only;rw [List.getElem?_append_right (by omega),show i - s.R.length=0 by omega];rfl
     ·have:=h.2 c' hc'
      simp only
      rw [List.getD_eq_getElem?_getD (l:=s.R++_),List.getElem?_append_left hn,<-List.getD_eq_getElem?_getD]
      exact this
    exact BlankU.set (s:=⟨s.w,s.R++[List.replicate L (-1)],s.st⟩) h2
theorem BlankU.up {κ:Type} {L n c:Nat} {s:BS κ} (h:BlankU L n c s):BlankU L (n+1) 0 s:=by
 refine ⟨fun i h1 h2=>h.1 i (by omega) h2,fun c' _=>?_⟩
 by_cases hn:n+1 < s.R.length
 ·have:=h.1 (n+1) (by omega) hn
  rw [List.getD_eq_getElem?_getD (l:=s.R),this,Option.getD_some,List.getD_eq_getElem?_getD,List.getElem?_replicate]
  split<;>rfl
 ·have e:s.R[n+1]?=none:=List.getElem?_eq_none (by omega)
  rw [List.getD_eq_getElem?_getD (l:=s.R),e];rfl
theorem begU_blank {κ:Type} (L:Nat) (c:κ):BlankU L 0 0 (begU L c):=by
 refine ⟨fun i h1 h2=>by simp [begU] at h2;omega,fun c' _=>?_⟩
 show ((begU L c).R.getD 0 []).getD c' (-1)=-1
 simp only [begU,List.getD_cons_zero]
 rw [List.getD_eq_getElem?_getD,List.getElem?_replicate]
 split<;>rfl
def EofN {κ:Type} (fin:κ->Bool) (w:List κ) (n:Nat):List Bool:=(List.range w.length).map fun i=>match w[i]? with
 | some c=>decide (i < n) && fin c
 | none=>false
theorem EofN_get {κ:Type} {fin:κ->Bool} {w:List κ} {n i:Nat} (hi:i < w.length):(EofN fin w n)[i]?=some (decide (i < n) && fin w[i]):=by
 unfold EofN
 rw [List.getElem?_map,List.getElem?_range hi]
 simp [List.getElem?_eq_getElem hi]
theorem EofN_length {κ:Type} {fin:κ->Bool} {w:List κ} {n:Nat}:(EofN fin w n).length=w.length:=by simp [EofN]
theorem EofN_all {κ:Type} {fin:κ->Bool} {w:List κ}:EofN fin w w.length=w.map fin:=by
 apply List.ext_getElem (by simp [EofN])
 intro i h1 h2
 have hi:i < w.length:=by simpa using h2
 have:=EofN_get (fin:=fin) (n:=w.length) hi
 rw [List.getElem?_eq_getElem h1] at this
 simp at this ⊢
 rw [this];simp [hi]
theorem EofN_zero {κ:Type} {fin:κ->Bool} (c:κ):EofN fin [c] 0=[false]:=by simp [EofN]
theorem EofN_snoc {κ:Type} {fin:κ->Bool} {w:List κ} {n:Nat} (hn:n<=w.length) (c:κ):EofN fin (w++[c]) n=EofN fin w n++[false]:=by
 apply List.ext_getElem?
 intro i
 by_cases hi:i < w.length
 ·rw [EofN_get (by simp;omega),List.getElem?_append_left (by rw [EofN_length];exact hi),EofN_get hi]
  simp [hi]
 ·by_cases h2:i=w.length
  ·subst h2
   rw [EofN_get (by simp),List.getElem?_append_right (by rw [EofN_length];exact Nat.le_refl _),EofN_length,Nat.sub_self]
   simp;omega
  ·rw [List.getElem?_eq_none (by rw [EofN_length];simp;omega),List.getElem?_eq_none (by simp [EofN_length];omega)]
theorem EofN_set {κ:Type} {fin:κ->Bool} {w:List κ} {n:Nat} (hn:n < w.length):(EofN fin w n).set n (fin w[n])=EofN fin w (n+1):=by
 apply List.ext_getElem?
 intro i
 by_cases hi:i < w.length
 ·rw [EofN_get hi]
  by_cases h2:i=n
  ·subst h2;rw [List.getElem?_set_self (by rw [EofN_length];exact hi)];simp
  ·rw [List.getElem?_set_ne (fun e=>h2 e.symm),EofN_get hi]
   have:decide (i < n)=decide (i < n+1):=by rw [Bool.eq_iff_iff];simp;omega
   rw [this]
 ·rw [List.getElem?_eq_none (by simp [EofN_length];omega),List.getElem?_eq_none (by rw [EofN_length];omega)]
theorem EofN_at {κ:Type} {fin:κ->Bool} {w:List κ} {n:Nat} (hn:n < w.length):(EofN fin w n).set n false=EofN fin w n:=by
 apply List.ext_getElem?
 intro i
 by_cases h2:i=n
 ·subst h2;rw [List.getElem?_set_self (by rw [EofN_length];exact hn),EofN_get hn];simp
 ·rw [List.getElem?_set_ne (fun e=>h2 e.symm)]
end Go.Ab.Z
namespace Go.Ab.Z
open Go Go.Ab
variable {h h':AHeap} {k:Post} {fe le en mo:AVal} {A:PAlpha} {X:PAuto}
theorem Ref.butNew {b L:Nat} {s:BS KL} {E:List Bool} {lots:Bool} {own:List Nat} {h7:AHeap} (M:Ref h b L s E lots own) (w:WF h) (l:Hle h h7) (bt:But h.next h7 h'):Ref h' b L s E lots own:=by
 obtain ⟨mp,mb,lv,tv,ev,rb,vs,e,M⟩:=M
 have kp:∀ j,j < h.next->Kp h h' j:=fun j hj=>Kp.trans (Hle.kp l j) (But.kp bt (by omega))
 exact ⟨mp,mb,lv,tv,ev,rb,vs,e,M.kp (fun j hj=>kp j (M.lt w j hj)) fun v hv j hj=>kp j (M.elt w hv j hj)⟩
theorem Ref.mem {b L:Nat} {s:BS KL} {E:List Bool} {lots:Bool} {own:List Nat} (M:Ref h b L s E lots own):b∈own:=by
 obtain ⟨mp,mb,lv,tv,ev,rb,vs,rfl,_⟩:=M
 simp [ownR]
theorem Ref.graphK {b L:Nat} {s:BS KL} {E:List Bool} {lots:Bool} {own:List Nat} (M:Ref h b L s E lots own):∃ tv ev,h.read b 2 2=some [tv,ev]/\(∀ h',(∀ j∈own,Kp h h' j)->IsGraph h' tv ev s.R E)/\oneA tv=true/\oneA ev=true:=by
 obtain ⟨mp,mb,lv,tv,ev,rb,vs,rfl,M⟩:=M
 refine ⟨tv,ev,M.box.rd (off:=2) (n:=2) (by simp) rfl,fun h' kp=>⟨⟨rb.map (rowS L),by simp [M.nrb,M.nR],(own_kp M.to fun j hj=>kp j (by simp [ownR,hj])).row1,fun i r x h1 h2=>?_⟩,(own_kp M.en fun j hj=>kp j (by simp [ownR,hj])).row1⟩,M.to.one,M.en.one⟩
 rw [List.getElem?_map] at h2
 cases hb:rb[i]? with
 | none=>rw [hb] at h2;cases h2
 | some c =>
  rw [hb] at h2;cases h2
  obtain ⟨h3,h4⟩:=M.rows i c r hb h1
  have:=(Blk.kp h3 (kp c (by simp [ownR,List.mem_of_getElem? hb]))).row1 (cap:=L) (by simp [h4])
  simpa [rowS,h4] using this
theorem runU_done {κ:Type} [DecidableEq κ] {next:κ->Nat->Option κ} {L F:Nat} {s:BS κ}:runU next L F s.w.length s=s:=by
 cases F with
 | zero=>rfl
 | succ F=>unfold runU;rw [if_neg (by simp)]
theorem two_one {a b:AVal} (h1:oneA a=true) (h2:oneA b=true):allOne [a,b]=true:=by
 show bi (oneA a) (bi (oneA b) true false) false=true
 rw [h1,h2];rfl
theorem marks_set {st:Nat} {p q:Nat->Bool} {t:Nat} (ht:t < st) (h1:q t=true) (h2:∀ j,j≠t->q j=p j):(((List.range st).map p).map AVal.bool).set t (.bool true)=((List.range st).map q).map AVal.bool:=by
 apply List.ext_getElem (by simp)
 intro i h3 h4
 rw [List.getElem_set]
 simp only [List.getElem_map,List.getElem_range]
 split
 ·rename_i e;subst e;rw [h1]
 ·rename_i e;rw [h2 i fun e2=>e e2.symm]
theorem marks_write {st:Nat} {v:AVal} {p q:Nat->Bool} {t:Nat} (o:ORow h 1 v st (((List.range st).map p).map .bool)) (w:WF h) (ht:t < st) (h1:q t=true) (h2:∀ j,j≠t->q j=p j) :
  ∃ h2,indexAddrS 1 v (.int .i64 (t:Int))=some (.ptr (rowB v) t)/\h.write (rowB v) t [.bool true]=some h2/\ORow h2 1 v st (((List.range st).map q).map .bool)/\But (rowB v) h h2/\WF h2:=by
 have i1:=o.idx ht .i64
 rw [Nat.mul_one] at i1
 obtain ⟨h2',a1,a2,a3⟩:=o.write1 (i:=t) (c:=.bool true) ht rfl
 rw [marks_set ht h1 h2] at a2
 exact ⟨h2',i1,a1,a2,a3,a3.wf w (own_lt o w _ (rowB_mem o (by omega)))⟩
theorem marks_zero (st:Nat):(List.replicate st (AVal.bool false))=((List.range st).map fun _=>false).map AVal.bool:=by
 rw [List.map_const',List.length_range,List.map_replicate]
theorem fresh_marks (h:AHeap) (st:Nat) {p:Nat->Bool} (hp:∀ j,p j=false):ORow (h.newCells (List.replicate st (.bool false))) 1 (.slice h.next 0 st st 1) st (((List.range st).map p).map .bool):=by
 have:=fresh_row h st (.bool false)
 have e:=marks_zero st
 have e2:p=fun _=>false:=funext hp
 rw [e2,<-e];exact this
theorem mem_take_succ {l:List Int} {i:Nat} (hi:i < l.length) (x:Int):decide (x∈l.take (i+1))=(decide (x∈l.take i) || decide (x=l[i])):=by
 rw [List.take_succ_eq_append_getElem hi,Bool.eq_iff_iff,decide_eq_true_eq,Bool.or_eq_true,decide_eq_true_eq,decide_eq_true_eq,List.mem_append,List.mem_singleton]
def inL (st:Nat) (l:KL):Prop:=l.length<=st/\∀ x∈l,0<=x/\x < (st:Int)
theorem risingL_in (bs:List Bool):(risingL bs).length<=bs.length/\∀ x∈risingL bs,0<=x/\x < (bs.length:Int):=by
 refine ⟨risingN_len bs bs.length,fun x hx=>?_⟩
 unfold risingL at hx
 obtain ⟨i,hi,rfl⟩:=List.mem_map.1 hx
 have:=List.mem_range.1 (List.mem_filter.1 hi).1
 omega
theorem any_take_succ {α:Type} {l:List α} {i:Nat} (hi:i < l.length) (p:α->Bool):(l.take (i+1)).any p=((l.take i).any p || p l[i]):=by
 rw [List.take_succ_eq_append_getElem hi,List.any_append];simp
theorem f82' {st:Nat} (hst:X.states=(st:Int)) (hA:IsAlpha h fe le A) (hX:IsAuto h en mo X) (ha:AlphaOk A) (hx:AutoOk A X)
  (H:∀ h' bv rb vv,WF h'->Hle h h'->WaysR h' bv A.letters.length st rb vv (byM A X.moves)->k bv h'):Cf 82 [.agg [fe,le],.agg [.int .i64 (st:Int),en,mo]] h k:=by
 have:=f82 hst hA hX ha hx H
 unfold aV at this
 rw [hst] at this
 exact this
set_option maxHeartbeats 4000000 in
theorem f84 {st:Nat} (hst:X.states=(st:Int)) (hA:IsAlpha h fe le A) (hX:IsAuto h en mo X) (ha:AlphaOk A) (hx:AutoOk A X)
  (H1:capOk (grR A X)=true->∀ h' to en,WF h'->Hle h h'->IsGraph h' to en (grR A X).R ((grR A X).w.map (finL X.ends))->k (.tup [.agg [to,en],.bool true]) h')
  (H0:¬ capOk (grR A X)=true->∀ h' to en,WF h'->Hle h h'->oneA to=true->oneA en=true->k (.tup [.agg [to,en],.bool false]) h') :
  Cf 84 [.agg [fe,le],aV X.states en mo] h k:=by
 unfold aV
 rw [hst]
 refine use_code compiled84 fun hw=>?_
 have hL1:=ha.1.2.1
 have hL:=ha.1.2.2
 have hs1:=hx.1.1
 have hs2:=hx.1.2.1
 have hs3:=hx.1.2.2
 have hxe:∀ x∈X.ends,0<=x/\x < (st:Int):=fun x hx'=>by
  obtain ⟨i,hi,rfl⟩:=List.getElem_of_mem hx'
  have:=(hx.2.1 i hi).1
  unfold inS at this
  simp only [decide_eq_true_eq] at this
  omega
 have hff:∀ p,∀ t∈byM A X.moves p,0<=t/\t < (st:Int):=fun p t ht=>by
  obtain ⟨mv,h1,h2⟩:=byM_mem' A ht
  have:=(hx.2.2.1 mv h1).2.1
  unfold inS at this
  simp only [decide_eq_true_eq] at this
  omega
 have hfl:∀ p,(byM A X.moves p).length<=16384:=fun p=>by have:=byM_len' A X.moves p;omega
 have hgr:grR A X=runU (nextL (byM A X.moves) st) A.letters.length 4098 0 (begU A.letters.length [0]):=by unfold grR;rw [hst];rfl
 rw [hgr] at H1 H0
 have w1:=hw.newCells [fe,le]
 have le1:=Hle.newCells hw [fe,le]
 have w2:=w1.newCells [.int .i64 (st:Int),en,mo]
 have le2:=Hle.newCells w1 [.int .i64 (st:Int),en,mo]
 have w3:=w2.newCells [.nils,.nils]
 have le3:=Hle.newCells w2 [.nils,.nils]
 have leh:=(le1.trans le2).trans le3
 have va:=((Blk.new h [fe,le]).mono le2).mono le3
 have vx:=(Blk.new (h.newCells [fe,le]) [.int .i64 (st:Int),en,mo]).mono le3
 have vr:=Blk.new ((h.newCells [fe,le]).newCells [.int .i64 (st:Int),en,mo]) [.nils,.nils]
 simp only [next_newCells] at vx vr
 have ra:=va.rd (off:=0) (n:=2) (l:=[fe,le]) (by simp) rfl
 have rx:=vx.rd (off:=0) (n:=3) (l:=[.int .i64 (st:Int),en,mo]) (by simp) rfl
 have alen:=hA.llen
 have elen:=hX.en.len
 simp only [List.length_map] at elen
 have xe1:=hX.ne
 simp [fn84,ra,rx]
 generalize hg0:((h.newCells [fe,le]).newCells [.int .i64 (st:Int),en,mo]).newCells [.nils,.nils]=g0 at *
 have gn:g0.next=h.next+3:=by rw [<-hg0];simp
 refine f82' hst (hA.mono leh) (hX.mono leh) ha hx fun g1 bv rb vv wg1 l1 W=>?_
 have rs1:=(vx.mono l1).rd1 (i:=0) (c:=.int .i64 (st:Int)) rfl
 have wg2:=wg1.newCells (List.replicate st (.bool false))
 have l2:=Hle.newCells wg1 (List.replicate st (.bool false))
 simp [rs1,repeatL_one]
 rw [decide_eq_true (by omega:st<=16777216)]
 simp
 rw [L84_1]
 refine loop_by (σ:=Nat) (fun i h'=>i<=X.ends.length/\WF h'/\But g1.next (g1.newCells (List.replicate st (.bool false))) h'/\ORow h' 1 (.slice g1.next 0 st st 1) st (((List.range st).map fun j:Nat=>decide ((j:Int)∈X.ends.take i)).map .bool))
  (fun i=>[(2,.ptr h.next 0),(3,.ptr (h.next+1) 0),(4,.ptr (h.next+1+1) 0),(6,bv),(7,.slice g1.next 0 st st 1),(8,.int .i64 i)]) (fun i=>X.ends.length - i) 0 (by simp) ?_ ?_
 ·exact ⟨Nat.zero_le _,wg2,But.refl _ _,fresh_marks g1 st fun j=>by simp⟩
 rintro i h3 K ⟨hi,w3',bt3,o3⟩ hK
 have l3:=bt3.hle l2 wg1 (Nat.le_refl _)
 have rx3:=(vx.mono (l1.trans l3)).rd1 (i:=1) (c:=en) rfl
 simp [rx3,elen]
 refine ap_split (fun hc=>?_) (fun hc=>?_)
 ·have hc:i < X.ends.length:=by omega
  have e1:=hX.en.idx (i:=i) (by simpa using hc) .i64
  have e2:=(hX.en.mono (leh.trans (l1.trans l3))).rd (i:=i) (c:=vI X.ends[i]) (by simp [hc])
  have eb:=hxe X.ends[i] (List.getElem_mem hc)
  have tk:∀ j:Nat,decide ((j:Int)∈X.ends.take (i+1))=(decide ((j:Int)∈X.ends.take i) || decide ((j:Int)=X.ends[i])):=fun j=>mem_take_succ hc _
  obtain ⟨t,ht⟩:=Int.eq_ofNat_of_zero_le eb.1
  have wr:wrapF .i64 ((i:Int)+1)=(i:Int)+1:=wrap64 (by omega) (by omega)
  obtain ⟨h4,a0,a1,a2,a3,a4⟩:=marks_write (q:=fun j:Nat=>decide ((j:Int)∈X.ends.take (i+1))) o3 w3' (t:=t) (by omega) (by rw [tk,ht];simp) (fun j hj=>by
   rw [tk j,ht,decide_eq_false (by omega:¬ ((j:Int)=(t:Int)))];simp)
  rw [ht] at e2
  simp only [rowB_s] at a0 a1 a3
  simp only [vI] at e2
  simp [rx3,e1,e2,a0,a1,wr]
  exact hK (i+1) _ _ (by omega) (by simp) ⟨by omega,a4,bt3.trans a3,a2⟩
 ·have:i=X.ends.length:=by omega
  subst this
  rw [List.take_length] at o3
  have w4:=w3'.newCells [.int .i64 0]
  have l4:=Hle.newCells w3' [.int .i64 0]
  have lA:=l1.trans (l3.trans l4)
  have ra4:=(va.mono lA).rd1 (i:=1) (c:=le) rfl
  have z0:Row1 (h3.newCells [.int .i64 0]) (.slice h3.next 0 1 1 1) (([0]:List Int).map vI):=(ORow.fresh h3 (sz:=1) (n:=1) (cs:=[.int .i64 0]) rfl).row1
  clear hK hc
  simp [listPut,ra4,alen]
  refine f62 z0 (by simp) (fun x hx'=>by simp at hx';omega) (by simp) (by omega) fun h5 b own w5 l5 M5 ho5=>?_
  have oB:=o3.mono l4
  have WB:=W.mono (l3.trans l4)
  have vaB:=va.mono lA
  have vxB:=vx.mono lA
  have vrB:=vr.mono lA
  have leB:=leh.trans lA
  have gB:=lA.next
  generalize h3.newCells [.int .i64 0]=hB at *
  clear o3 W l4 z0 ra4 rx3 rs1 bt3 l3 w3' lA
  simp
  rw [L84_2]
  generalize hF:byM A X.moves=F at *
  refine loop_by (σ:=Nat) (fun n h'=>∃ s own,WF h'/\Hle hB h'/\Ref h' b A.letters.length s (EofN (finL X.ends) s.w n) (!capOk s) own/\(∀ j∈own,hB.next<=j)/\n<=s.w.length/\runU (nextL F st) A.letters.length (4098 - n) n s=runU (nextL F st) A.letters.length 4098 0 (begU A.letters.length [0])/\(∀ l∈s.w,inL st l)/\BlankU A.letters.length n 0 s/\n<=4096+200)
   (fun n=>[(2,.ptr h.next 0),(3,.ptr (h.next+1) 0),(4,.ptr (h.next+1+1) 0),(6,bv),(7,.slice g1.next 0 st st 1),(9,.ptr b 0),(10,.int .i64 n)]) (fun n=>5000 - n) 0 (by simp) ?_ ?_
  ·refine ⟨begU A.letters.length [0],own,w5,l5,?_,ho5,Nat.zero_le _,rfl,fun l hl=>?_,begU_blank _ _,by omega⟩
   ·have e1:(!capOk (begU A.letters.length ([0]:KL)))=false:=by simp [capOk,begU]
    rw [e1]
    show Ref h5 b A.letters.length (begU A.letters.length [0]) (EofN (finL X.ends) [[0]] 0) false own
    rw [EofN_zero]
    exact M5
   ·simp [begU] at hl
    rw [hl]
    exact ⟨by simp;omega,fun x hx'=>by simp at hx';omega⟩
  clear M5 w5 l5 ho5 own
  generalize runU (nextL F st) A.letters.length 4098 0 (begU A.letters.length [0])=GR at *
  rintro n h6 K ⟨s,own,w6,l6,M,ho,hn,hrun,hin,hbl,hnb⟩ hK
  obtain ⟨lv,q1,q2⟩:=M.len
  have ql:=M.rdLots
  have fin:s=GR->(capOk s=true->n=s.w.length)->∃ h7 tv ev,h6.read b 2 2=some [tv,ev]/\h6.write (h.next+1+1) 0 [tv,ev]=some h7/\h7.read1 b 5=some (.bool (!capOk s))/\h7.read (h.next+1+1) 0 2=some [tv,ev]/\(WF h7->k (.tup [.agg [tv,ev],.bool (capOk s)]) h7):=by
   intro hs hn2
   obtain ⟨tv,ev,z1,z2,o1,o2⟩:=M.graphK
   obtain ⟨h7,y1,y2,y3⟩:=(vrB.mono l6).write (off:=0) (vs:=[tv,ev]) (by simp) (two_one o1 o2)
   have y2:Blk h7 (h.next+1+1) [tv,ev]:=by simpa using y2
   have hbn:b≠h.next+1+1:=by have:=ho b M.mem;omega
   have lh:Hle h h7:=y3.hle (leB.trans l6) hw (by omega)
   refine ⟨h7,tv,ev,z1,y1,?_,y2.rd (off:=0) (n:=2) (by simp) rfl,fun w=>?_⟩
   ·rw [read1_keep (y3.get b hbn)];exact ql
   ·cases hco:capOk s with
    | true =>
     have:=z2 h7 fun j hj=>But.kp y3 (by have:=ho j hj;omega)
     rw [hn2 hco,EofN_all] at this
     exact H1 (hs ▸ hco) h7 tv ev w lh (hs ▸ this)
    | false=>exact H0 (by rw [<-hs,hco];simp) h7 tv ev w lh o1 o2
  simp [nilCheckA,q1,q2]
  by_cases hd:n < s.w.length
  rotate_left
  ·have hnl:n=s.w.length:=by omega
   have hs:s=GR:=by rw [<-hrun,hnl];exact runU_done.symm
   obtain ⟨h7,tv,ev,z1,z2,z3,z4,z5⟩:=fin hs fun _=>hnl
   have dn:decide (n < s.w.length)=false:=decide_eq_false hd
   simp only [dn]
   simp [nilCheckA,z1,ql,z2,z3,z4]
   exact z5
  have dn:decide (n < s.w.length)=true:=decide_eq_true hd
  simp only [dn]
  simp [nilCheckA,ql]
  cases hco:capOk s with
  | false =>
   have hs:s=GR:=by rw [<-hrun];exact (runU_stop (by rw [hco];simp) _ _).symm
   obtain ⟨h7,tv,ev,z1,z2,z3,z4,z5⟩:=fin hs fun h=>by rw [hco] at h;cases h
   rw [hco] at z3 z5 ql
   simp [nilCheckA,z1,ql,z2,z3,z4]
   exact z5
  | true =>
  clear fin
  have hcap:=hco
  unfold capOk at hcap
  simp only [Bool.and_eq_true,decide_eq_true_eq] at hcap
  rw [hco] at M ql
  simp only [Bool.not_true] at M ql
  have hrun':runU (nextL F st) A.letters.length (4098 - (n+1)) (n+1) (rowU (nextL F st) A.letters.length n (List.range A.letters.length) s)=GR:=by
   rw [<-hrun,show 4098 - n=(4098 - (n+1))+1 by omega]
   conv=>rhs;unfold runU
   rw [if_pos ⟨hd,hco⟩]
  simp
  rw [L84_3]
  have lin:=hin s.w[n] (List.getElem_mem hd)
  refine loop_by (σ:=Nat) (fun i h'=>i<=s.w[n].length/\WF h'/\Hle hB h'/\Ref h' b A.letters.length s ((EofN (finL X.ends) s.w n).set n ((s.w[n].take i).any fun x=>decide (x∈X.ends))) false own)
   (fun i=>[(2,.ptr h.next 0),(3,.ptr (h.next+1) 0),(4,.ptr (h.next+1+1) 0),(6,bv),(7,.slice g1.next 0 st st 1),(9,.ptr b 0),(10,.int .i64 n),(11,.int .i64 i)]) (fun i=>s.w[n].length - i) 0 (by simp) ?_ ?_
  ·refine ⟨Nat.zero_le _,w6,l6,?_⟩
   have e:(s.w[n].take 0).any (fun x=>decide (x∈X.ends))=false:=by simp
   rw [e,EofN_at hd]
   exact M
  clear M q1 q2 ql w6 l6 h6
  rintro i h6 K2 ⟨hi,w6,l6,M⟩ hK2
  obtain ⟨lv,v,q1,q2,q3,q4,q5⟩:=M.at hd
  have vl:=q4.len
  simp only [List.length_map] at vl
  simp [nilCheckA,q1,q2,q3,vl]
  refine ap_split (fun hq=>?_) (fun hq=>?_)
  ·have hq:i < s.w[n].length:=by omega
   have e1:=q4.idx (i:=i) (by simpa using hq) .i64
   have e2:=q4.rd (i:=i) (c:=vI s.w[n][i]) (by simp [hq])
   have eb:=lin.2 _ (List.getElem_mem hq)
   have tk:=any_take_succ hq fun x=>decide (x∈X.ends)
   obtain ⟨t,ht⟩:=Int.eq_ofNat_of_zero_le eb.1
   have hts:t < st:=by omega
   obtain ⟨i1,i2⟩:=orow_at (oB.mono l6) hts (c:=.bool (decide ((t:Int)∈X.ends))) (by simp [hts]) rfl
   simp only [rowB_s] at i1 i2
   have wr:wrapF .i64 ((i:Int)+1)=(i:Int)+1:=wrap64 (by have:=lin.1;omega) (by have:=lin.1;omega)
   rw [ht] at tk e2
   simp only [vI] at e2
   obtain ⟨ev,h7,y1,y2,y3,y4,w7,n7,x7,M7⟩:=M.setEnd w6 hd ((s.w[n].take (i+1)).any fun x=>decide (x∈X.ends))
   have gd:((EofN (finL X.ends) s.w n).set n ((s.w[n].take i).any fun x=>decide (x∈X.ends))).getD n false=(s.w[n].take i).any fun x=>decide (x∈X.ends):=by
    rw [List.getD_eq_getElem?_getD,List.getElem?_set_self (by rw [EofN_length];exact hd)];rfl
   rw [gd] at y3
   rw [List.set_set] at M7
   have l7:=x7.hle' l6 w4 ho
   simp [nilCheckA,y1,y2,y3]
   generalize hv0:((s.w[n].take i).any fun x=>decide (x∈X.ends))=v0 at *
   have go:∀ T,Has T [(2,.ptr h.next 0),(3,.ptr (h.next+1) 0),(4,.ptr (h.next+1+1) 0),(6,bv),(7,.slice g1.next 0 st st 1),(9,.ptr b 0),(10,.int .i64 n),(11,.int .i64 ((i+1:Nat):Int))]->K2 T h7:=fun T hT=>hK2 (i+1) T h7 (by omega) hT ⟨by omega,w7,l7,M7⟩
   cases v0 with
   | true =>
    rw [Bool.true_or] at tk
    rw [tk] at y4
    simp [y2,y4,wr]
    exact go _ (by simp)
   | false =>
    rw [Bool.false_or] at tk
    rw [tk] at y4
    simp [nilCheckA,q1,q2,q3,e1,e2,i1,i2,y2,y4,wr]
    exact go _ (by simp)
  ·have hil:i=s.w[n].length:=by omega
   subst hil
   rw [List.take_length] at M
   have hfe:(EofN (finL X.ends) s.w n).set n (s.w[n].any fun x=>decide (x∈X.ends))=EofN (finL X.ends) s.w (n+1):=EofN_set hd
   rw [hfe] at M
   simp
   rw [L84_4]
   clear hK2 K2 hfe hq vl q1 q2 q3 q4 q5 hi
   refine loop_by (σ:=Nat) (fun c h'=>∃ s' own',s'=rowU (nextL F st) A.letters.length n (List.range c) s/\WF h'/\Hle hB h'/\Ref h' b A.letters.length s' (EofN (finL X.ends) s'.w (n+1)) (!capOk s') own'/\(∀ j∈own',hB.next<=j)/\c<=A.letters.length/\BlankU A.letters.length n c s'/\s'.st<=s.st+c/\s'.w.length<=s.w.length+c/\∀ l∈s'.w,inL st l)
    (fun c=>[(2,.ptr h.next 0),(3,.ptr (h.next+1) 0),(4,.ptr (h.next+1+1) 0),(6,bv),(7,.slice g1.next 0 st st 1),(9,.ptr b 0),(10,.int .i64 n),(12,.int .i64 c)]) (fun c=>A.letters.length - c) 0 (by simp) ?_ ?_
   ·exact ⟨s,own,rfl,w6,l6,by rw [hco];exact M,ho,Nat.zero_le _,hbl,by omega,by omega,hin⟩
   clear M w6 l6 h6 ho own hbl
   rintro c h6 K2 ⟨s',own,hs',w6,l6,M,ho,hcl,hbl,hst',hwl',hin'⟩ hK2
   have ra6:=(vaB.mono l6).rd1 (i:=1) (c:=le) rfl
   simp [ra6,alen]
   refine ap_split (fun hq=>?_) (fun hq=>?_)
   rotate_left
   ·have:c=A.letters.length:=by omega
    subst this
    have wr:wrapF .i64 ((n:Int)+1)=(n:Int)+1:=wrap64 (by omega) (by omega)
    have rm:=(rowU_mono (next:=nextL F st) (L:=A.letters.length) n (List.range A.letters.length) s).2
    simp [wr]
    refine hK (n+1) _ _ (by omega) (by simp) ⟨s',own,w6,l6,M,ho,by rw [hs'];omega,by rw [hs'];exact hrun',hin',hbl.up,by omega⟩
   have hq:c < A.letters.length:=by omega
   have rmw:=(rowU_mono (next:=nextL F st) (L:=A.letters.length) n (List.range c) s).2
   have hnw:n < s'.w.length:=by rw [hs'];omega
   have hgw:s'.w[n]=s.w[n]:=by
    have key:∀ (ks:List Nat) (s:BS KL) (hn:n < s.w.length),(rowU (nextL F st) A.letters.length n ks s).w[n]?=some s.w[n]:=by
     intro ks
     induction ks with
     | nil=>intro s hn;exact List.getElem?_eq_getElem hn
     | cons k ks ih =>
      intro s hn
      rw [rowU_cons]
      have h1:=(stepU_mono (next:=nextL F st) (L:=A.letters.length) n s k).2
      rw [ih (stepU (nextL F st) A.letters.length n s k) (by omega)]
      have:(stepU (nextL F st) A.letters.length n s k).w[n]?=some s.w[n]:=by
       unfold stepU
       split
       ·exact List.getElem?_eq_getElem hn
       ·split
        ·exact List.getElem?_eq_getElem hn
        ·rename_i t _
         by_cases ht:t∈s.w
         ·rw [addU_old _ ht];exact List.getElem?_eq_getElem hn
         ·rw [addU_new _ ht];simp only;rw [List.getElem?_append_left hn];exact List.getElem?_eq_getElem hn
      rw [List.getElem?_eq_getElem (by omega)] at this
      exact this
    have:=key (List.range c) s hd
    rw [<-hs',List.getElem?_eq_getElem hnw] at this
    exact Option.some.inj this
   have lin:=hin' s'.w[n] (List.getElem_mem hnw)
   have hsn:rowU (nextL F st) A.letters.length n (List.range (c+1)) s=stepU (nextL F st) A.letters.length n s' c:=by rw [List.range_succ,rowU_snoc,<-hs']
   have hstep:stepU (nextL F st) A.letters.length n s' c=match nextL F st s'.w[n] c with | none=>s' | some t=>addU A.letters.length n c t s':=by
    unfold stepU
    rw [List.getElem?_eq_getElem hnw]
    simp only
    cases nextL F st s'.w[n] c<;>rfl
   have wrc:wrapF .i64 ((c:Int)+1)=(c:Int)+1:=wrap64 (by omega) (by omega)
   have rx6:=(vxB.mono l6).rd1 (i:=0) (c:=.int .i64 (st:Int)) rfl
   simp [rx6,repeatL_one]
   rw [decide_eq_true (by omega:st<=16777216)]
   have w7:=w6.newCells (List.replicate st (.bool false))
   have l7:=Hle.newCells w6 (List.replicate st (.bool false))
   simp
   rw [L84_5]
   refine loop_by (σ:=Nat) (fun i h'=>i<=s'.w[n].length/\WF h'/\But h6.next (h6.newCells (List.replicate st (.bool false))) h'/\ORow h' 1 (.slice h6.next 0 st st 1) st (((List.range st).map fun j:Nat=>(s'.w[n].take i).any fun x=>decide ((j:Int)∈F (x,(c:Int)))).map .bool))
    (fun i=>[(2,.ptr h.next 0),(3,.ptr (h.next+1) 0),(4,.ptr (h.next+1+1) 0),(6,bv),(7,.slice g1.next 0 st st 1),(9,.ptr b 0),(10,.int .i64 n),(12,.int .i64 c),(13,.slice h6.next 0 st st 1),(14,.int .i64 i)]) (fun i=>s'.w[n].length - i) 0 (by simp) ?_ ?_
   ·exact ⟨Nat.zero_le _,w7,But.refl _ _,fresh_marks h6 st fun j=>by simp⟩
   rintro i h8 K3 ⟨hi,w8,bt8,o8⟩ hK3
   have M8:=M.butNew w6 l7 bt8
   have l68:=bt8.hle l7 w6 (Nat.le_refl _)
   have l8:=l6.trans l68
   obtain ⟨lv,v,q1,q2,q3,q4,q5⟩:=M8.at hnw
   have vl:=q4.len
   simp only [List.length_map] at vl
   simp [nilCheckA,q1,q2,q3,vl]
   refine ap_split (fun hz=>?_) (fun hz=>?_)
   ·have hz:i < s'.w[n].length:=by omega
    have e1:=q4.idx (i:=i) (by simpa using hz) .i64
    have e2:=q4.rd (i:=i) (c:=vI s'.w[n][i]) (by simp [hz])
    have eb:=lin.2 _ (List.getElem_mem hz)
    have tk:=fun j:Nat=>any_take_succ hz fun x=>decide ((j:Int)∈F (x,(c:Int)))
    obtain ⟨t,ht⟩:=Int.eq_ofNat_of_zero_le eb.1
    have hts:t < st:=by omega
    rw [ht] at e2
    simp only [vI] at e2
    have wr:wrapF .i64 ((i:Int)+1)=(i:Int)+1:=wrap64 (by have:=lin.1;omega) (by have:=lin.1;omega)
    obtain ⟨b',hb',i1,i2,i3,i4⟩:=(WB.mono l8).at hts hq
    simp only [rowS] at i2 i3
    simp [nilCheckA,q1,q2,q3,e1,e2,i1,i2,i3,i4]
    have vrow:=(WB.els t c hts hq).row1
    have vrl:=vrow.len
    simp only [List.length_map] at vrl
    have fb:=hff ((t:Int),(c:Int))
    have fl:=hfl ((t:Int),(c:Int))
    generalize hls:F ((t:Int),(c:Int))=ls at *
    have tk':∀ j:Nat,(s'.w[n].take (i+1)).any (fun x=>decide ((j:Int)∈F (x,(c:Int))))=((s'.w[n].take i).any (fun x=>decide ((j:Int)∈F (x,(c:Int)))) || decide ((j:Int)∈ls)):=fun j=>by rw [tk j,ht,hls]
    rw [L84_6]
    refine loop_by (σ:=Nat) (fun y h'=>y<=ls.length/\WF h'/\But h6.next (h6.newCells (List.replicate st (.bool false))) h'/\ORow h' 1 (.slice h6.next 0 st st 1) st (((List.range st).map fun j:Nat=>((s'.w[n].take i).any fun x=>decide ((j:Int)∈F (x,(c:Int)))) || decide ((j:Int)∈ls.take y)).map .bool))
     (fun y=>[(2,.ptr h.next 0),(3,.ptr (h.next+1) 0),(4,.ptr (h.next+1+1) 0),(6,bv),(7,.slice g1.next 0 st st 1),(9,.ptr b 0),(10,.int .i64 n),(12,.int .i64 c),(13,.slice h6.next 0 st st 1),(14,.int .i64 i),(15,vv t c),(16,.int .i64 y)]) (fun y=>ls.length - y) 0 (by simp) ?_ ?_
    ·refine ⟨Nat.zero_le _,w8,bt8,?_⟩
     have e:(fun j:Nat=>((s'.w[n].take i).any fun x=>decide ((j:Int)∈F (x,(c:Int)))) || decide ((j:Int)∈ls.take 0))=fun j:Nat=>(s'.w[n].take i).any fun x=>decide ((j:Int)∈F (x,(c:Int))):=by funext j;simp
     rw [e];exact o8
    rintro y h9 K4 ⟨hy,w9,bt9,o9⟩ hK4
    have l9:=l6.trans (bt9.hle l7 w6 (Nat.le_refl _))
    simp [vrl]
    refine ap_split (fun hu=>?_) (fun hu=>?_)
    ·have hu:y < ls.length:=by omega
     have f1:=vrow.idx (i:=y) (by simpa using hu) .i64
     have f2:=(vrow.mono l9).rd (i:=y) (c:=vI ls[y]) (by simp [hu])
     have fy:=fb _ (List.getElem_mem hu)
     obtain ⟨z,hzz⟩:=Int.eq_ofNat_of_zero_le fy.1
     have tky:=fun x:Int=>mem_take_succ hu x
     rw [hzz] at f2 tky
     simp only [vI] at f2
     have wry:wrapF .i64 ((y:Int)+1)=(y:Int)+1:=wrap64 (by omega) (by omega)
     obtain ⟨hx1,a0,a1,a2,a3,a4⟩:=marks_write (q:=fun j:Nat=>((s'.w[n].take i).any fun x=>decide ((j:Int)∈F (x,(c:Int)))) || decide ((j:Int)∈ls.take (y+1))) o9 w9 (t:=z) (by omega) (by rw [tky];simp) (fun j hj=>by
      rw [tky,decide_eq_false (by omega:¬ ((j:Int)=(z:Int)))];simp)
     simp only [rowB_s] at a0 a1 a3
     simp [f1,f2,a0,a1,wry]
     exact hK4 (y+1) _ _ (by omega) (by simp) ⟨by omega,a4,bt9.trans a3,a2⟩
    ·have:y=ls.length:=by omega
     subst this
     rw [List.take_length] at o9
     simp [wr]
     refine hK3 (i+1) _ _ (by omega) (by simp) ⟨by omega,w9,bt9,?_⟩
     have e:(fun j:Nat=>(s'.w[n].take (i+1)).any fun x=>decide ((j:Int)∈F (x,(c:Int))))=fun j:Nat=>((s'.w[n].take i).any fun x=>decide ((j:Int)∈F (x,(c:Int)))) || decide ((j:Int)∈ls):=funext tk'
     rw [e];exact o9
   ·have hil:i=s'.w[n].length:=by omega
    subst hil
    rw [List.take_length] at o8
    have ra8:=(vaB.mono l8).rd1 (i:=1) (c:=le) rfl
    have ml:(marksL F st s'.w[n] c).length=st:=by simp [marksL]
    have o8':Row1 h8 (.slice h6.next 0 st st 1) ((marksL F st s'.w[n] c).map .bool):=o8.row1
    simp [ra8,alen]
    refine f67 o8' (by rw [ml];omega) fun h9 r w9 l9 or9 gr9=>?_
    have l89:=l8.trans l9
    have ra9:=(vaB.mono l89).rd1 (i:=1) (c:=le) rfl
    have sl:=same_row hA.le
    have M9:=M8.mono l9
    have rin:=risingL_in (marksL F st s'.w[n] c)
    rw [ml] at rin
    have nx:nextL F st s'.w[n] c=if risingL (marksL F st s'.w[n] c)=[] then none else some (risingL (marksL F st s'.w[n] c)):=rfl
    rw [nx] at hstep
    simp [ra9,sl]
    generalize risingL (marksL F st s'.w[n] c)=rr at *
    refine f66 M9 or9.row1 (fun j hj e=>by have:=gr9 j hj;have:=M8.lt w8 j e;omega) (fun x hx'=>by have:=rin.2 x hx';omega) (by omega) (by omega) (by omega) (by omega) (fun hz w=>?_) (fun hz h10 own' w10 M10 ho10 hx10=>?_)
    ·rw [if_pos hz] at hstep
     simp only at hstep
     obtain ⟨tv,c',h10,y1,y2,y3,y4,y5,w10,n10,x10,M10⟩:=M9.setTo w9 hnw hq (-1)
     rw [setRC_same (hbl.2 c (Nat.le_refl _))] at M10
     simp only [rowS] at y3 y4
     simp [nilCheckA,y1,y2,y3,y4,y5,wrc]
     refine hK2 (c+1) _ _ (by omega) (by simp) ⟨s',own,by rw [hsn];exact hstep.symm,w10,x10.hle' l89 w4 ho,M10,ho,by omega,⟨hbl.1,fun c' hc'=>hbl.2 c' (by omega)⟩,by omega,by omega,hin'⟩
    ·rw [if_neg hz] at hstep
     simp only at hstep
     have pm:s'.w.length<=(putU A.letters.length rr s').w.length/\(putU A.letters.length rr s').w.length<=s'.w.length+1:=by unfold putU;split<;>simp
     obtain ⟨tv,c',h11,y1,y2,y3,y4,y5,w11,n11,x11,M11⟩:=M10.setTo w10 (n:=n) (c:=c) (by omega) hq (idxK (putU A.letters.length rr s').w rr:Int)
     have ad:=addU_put A.letters.length n c rr s'
     rw [<-ad] at M11
     have l10:=hx10.hle' l89 w4 ho
     have ho':∀ j∈own',hB.next<=j:=fun j hj=>by
      rcases ho10 j hj with h1 | h1
      ·exact ho j h1
      ·have:=l89.next;omega
     simp only [rowS] at y3 y4
     simp [nilCheckA,y1,y2,y3,y4,y5,wrc]
     have eE:putE2 rr s'.w (EofN (finL X.ends) s'.w (n+1))=EofN (finL X.ends) (addU A.letters.length n c rr s').w (n+1):=by
      rw [ad]
      unfold putE2 putU
      by_cases hm:rr∈s'.w
      ·rw [if_pos hm,if_pos hm]
      ·rw [if_neg hm,if_neg hm];exact (EofN_snoc (by omega) rr).symm
     have eL:(!capOk s' || !capOk (putU A.letters.length rr s'))=!capOk (addU A.letters.length n c rr s'):=by
      have e1:capOk (addU A.letters.length n c rr s')=capOk (putU A.letters.length rr s'):=by rw [ad];rfl
      rw [e1]
      have hst2:=putU_st A.letters.length rr s'
      cases h1:capOk s' with
      | true=>simp
      | false =>
       have:capOk (putU A.letters.length rr s')=false:=by
        unfold capOk at h1 ⊢
        simp only [Bool.and_eq_false_iff,decide_eq_false_iff_not] at h1 ⊢
        omega
       rw [this];rfl
     rw [eE,eL] at M11
     have hst2:=putU_st A.letters.length rr s'
     have aw:(addU A.letters.length n c rr s').st=s'.st+1/\(addU A.letters.length n c rr s').w=(putU A.letters.length rr s').w:=by rw [ad];exact ⟨hst2,rfl⟩
     have hb2:BlankU A.letters.length n (c+1) (addU A.letters.length n c rr s'):=by
      have hR:n < s'.R.length:=by
       obtain ⟨_,_,_,_,_,_,_,_,MR⟩:=M9
       rw [MR.nR];exact hnw
      have:=hbl.step (next:=nextL F st) hR
      rw [hstep] at this;exact this
     refine hK2 (c+1) _ _ (by omega) (by simp) ⟨addU A.letters.length n c rr s',own',by rw [hsn];exact hstep.symm,w11,x11.hle' l10 w4 ho',M11,ho',by omega,hb2,by omega,by rw [aw.2];omega,fun l hl=>?_⟩
     rw [aw.2] at hl
     unfold putU at hl
     split at hl
     ·exact hin' l hl
     ·rcases List.mem_append.1 hl with h1 | h1
      ·exact hin' l h1
      ·simp at h1;rw [h1];exact rin
end Go.Ab.Z
namespace Go.Ab.Z
open Go Go.Ab
variable {h h':AHeap} {k:Post} {fe le en mo en' mo':AVal} {A:PAlpha} {X Y:PAuto}
noncomputable def lstX (A:PAlpha) (X:PAuto):PAuto×Int:=if autoE A X≠0 then (X0,autoE A X) else if ¬ capOk (detR A X)=true then (X0,9) else (minY A X,0)
theorem f84' {st:Nat} (hst:X.states=(st:Int)) (hA:IsAlpha h fe le A) (hX:IsAuto h en mo X) (ha:AlphaOk A) (hx:AutoOk A X)
  (H1:capOk (detR A X)=true->∀ h' to en,WF h'->Hle h h'->IsGraph h' to en (detR A X).R (detE A X)->k (.tup [.agg [to,en],.bool true]) h')
  (H0:¬ capOk (detR A X)=true->∀ h' to en,WF h'->Hle h h'->oneA to=true->oneA en=true->k (.tup [.agg [to,en],.bool false]) h') :
  Cf 84 [.agg [fe,le],aV X.states en mo] h k:=by
 obtain ⟨g1,g2⟩:=gr_det (A:=A) hx
 have e1:(grR A X).R=(detR A X).R:=by rw [g1];rfl
 have e2:capOk (grR A X)=capOk (detR A X):=by rw [g1];unfold capOk BS.map;simp
 refine f84 hst hA hX ha hx (fun c=>?_) (fun c=>?_)
 ·rw [e2] at c
  rw [e1,g2]
  exact H1 c
 ·rw [e2] at c;exact H0 c
theorem f28 (hA:IsAlpha h fe le A) (hX:IsAuto h en mo X)
  (H:∀ h' ze zm,WF h'->Hle h h'->IsAuto h' ze zm (lstX A X).1->OwnAuto h h' ze zm (lstX A X).1->k (.tup [aV (lstX A X).1.states ze zm,.int .i64 (lstX A X).2]) h'):Cf 28 [.agg [fe,le],aV X.states en mo] h k:=by
 refine use_code compiled28 fun hw=>?_
 have w1:=hw.newCells [fe,le]
 have le1:=Hle.newCells hw [fe,le]
 have w2:=w1.newCells [.int .i64 X.states,en,mo]
 have le2:=Hle.newCells w1 [.int .i64 X.states,en,mo]
 have w3:=w2.newCells [.int .i64 0,.nils,.nils]
 have le3:=Hle.newCells w2 [.int .i64 0,.nils,.nils]
 have leh:=(le1.trans le2).trans le3
 have va:=((Blk.new h [fe,le]).mono le2).mono le3
 have vx:=(Blk.new (h.newCells [fe,le]) [.int .i64 X.states,en,mo]).mono le3
 have vr:=Blk.new ((h.newCells [fe,le]).newCells [.int .i64 X.states,en,mo]) [.int .i64 0,.nils,.nils]
 simp only [next_newCells] at vx vr
 have ra:=va.rd (off:=0) (n:=2) (l:=[fe,le]) (by simp) rfl
 have rx:=vx.rd (off:=0) (n:=3) (l:=[.int .i64 X.states,en,mo]) (by simp) rfl
 simp [fn28,aV,ra,rx]
 generalize hg0:((h.newCells [fe,le]).newCells [.int .i64 X.states,en,mo]).newCells [.int .i64 0,.nils,.nils]=g0 at *
 have gn:g0.next=h.next+3:=by rw [<-hg0];simp
 have fin:∀ (g:AHeap) (Z:PAuto) (e:Int) (ze zm:AVal),(lstX A X)=(Z,e)->WF g->Hle g0 g->IsAuto g ze zm Z->OwnAuto g0 g ze zm Z ->
   ∃ g',g.write (h.next+1+1) 0 [.int .i64 Z.states,ze,zm]=some g'/\g'.read (h.next+1+1) 0 3=some [.int .i64 Z.states,ze,zm]/\(WF g'->k (.tup [.agg [.int .i64 Z.states,ze,zm],.int .i64 e]) g'):=by
  intro g Z e ze zm he wg lg iz oz
  obtain ⟨g2,y1,y2,y3,iz2,oz2⟩:=oz.lay (n:=Z.states) iz w3 lg (vr.mono lg) (fun j hj=>by have:=oz.ge j hj;omega) (fun j hj=>by have:=(oz.go j hj).1;omega)
  refine ⟨g2,y1,y2,fun w=>?_⟩
  have H:=H g2 ze zm w (y3.hle (leh.trans lg) hw (by omega))
  rw [he] at H
  exact H iz2 (oz2.up leh.next)
 refine f36 (hA.mono leh) (hX.mono leh) fun g1 wg1 l1=>?_
 have ra1:=(va.mono l1).rd (off:=0) (n:=2) (l:=[fe,le]) (by simp) rfl
 have rx1:=(vx.mono l1).rd (off:=0) (n:=3) (l:=[.int .i64 X.states,en,mo]) (by simp) rfl
 simp
 refine ap_split (fun hc=>?_) (fun hc=>?_)
 rotate_left
 ·obtain ⟨g2,y1,y2,y3⟩:=fin g1 X0 (autoE A X) .nils .nils (by unfold lstX;rw [if_pos hc]) wg1 l1 (X0_is _) (X0_own _ _)
  have y1:g1.write (h.next+1+1) 0 [.int .i64 0,.nils,.nils]=some g2:=y1
  have y2:g2.read (h.next+1+1) 0 3=some [.int .i64 0,.nils,.nils]:=y2
  simp [y1,y2]
  exact y3
 obtain ⟨ha,hx⟩:=autoE_zero.1 hc
 obtain ⟨st,hst⟩:=Int.eq_ofNat_of_zero_le (show 0<=X.states by have:=hx.1.1;omega)
 simp [ra1,rx1]
 refine f84' hst (hA.mono (leh.trans l1)) (hX.mono (leh.trans l1)) ha hx (fun cok g2 to en wg2 l2 G=>?_) (fun cok g2 to en wg2 l2 o1 o2=>?_)
 ·have w4:=wg2.newCells [.nils,.nils]
  have l4:=Hle.newCells wg2 [.nils,.nils]
  obtain ⟨g3,z1,z2,z3⟩:=(Blk.new g2 [.nils,.nils]).write (off:=0) (vs:=[to,en]) (by simp) (two_one (row_one G.to.choose_spec.2.1) (row_one G.en))
  have z2:Blk g3 g2.next [to,en]:=by simpa using z2
  have l3:=z3.hle l4 wg2 (Nat.le_refl _)
  have lA:=l1.trans (l2.trans l3)
  have ra3:=(va.mono lA).rd (off:=0) (n:=2) (l:=[fe,le]) (by simp) rfl
  have r3:=z2.rd (off:=0) (n:=2) (l:=[to,en]) (by simp) rfl
  simp [z1,ra3,r3]
  refine f68 (G.mono l3) (by rw [show (detE A X).length=(detR A X).w.length from by simp [detE],(detR_w A X).len]) (hA.mono (leh.trans lA)) (detR_ne A X) (detR_bd A X) (detR_w A X).rows.len (by have:=detR_cap cok;omega) ha.1.2.2 fun g4 ze zm wg4 l5 iz oz=>?_
  obtain ⟨g5,y1,y2,y3⟩:=fin g4 (minY A X) 0 ze zm (by unfold lstX;rw [if_neg (by simp [hc]),if_neg (fun hn=>hn cok)]) wg4 (lA.trans l5) iz (oz.up lA.next)
  rw [show leastX (detR A X).R (detE A X) (A.letters.map PLetter.rune)=minY A X from rfl]
  simp [aV,y1,y2]
  exact y3
 ·have w4:=wg2.newCells [.nils,.nils]
  have l4:=Hle.newCells wg2 [.nils,.nils]
  obtain ⟨g3,z1,z2,z3⟩:=(Blk.new g2 [.nils,.nils]).write (off:=0) (vs:=[to,en]) (by simp) (two_one o1 o2)
  have l3:=z3.hle l4 wg2 (Nat.le_refl _)
  have w3':=z3.wf w4 (by simp)
  have lA:=l1.trans (l2.trans l3)
  obtain ⟨g5,y1,y2,y3⟩:=fin g3 X0 9 .nils .nils (by unfold lstX;rw [if_neg (by simp [hc]),if_pos cok]) w3' lA (X0_is _) (X0_own _ _)
  have y1:g3.write (h.next+1+1) 0 [.int .i64 0,.nils,.nils]=some g5:=y1
  have y2:g5.read (h.next+1+1) 0 3=some [.int .i64 0,.nils,.nils]:=y2
  simp [z1,y1,y2]
  exact y3
end Go.Ab.Z
namespace Go.Ab.Z
open Go Go.Ab
variable {h h':AHeap} {k:Post} {fe le en mo en' mo':AVal} {A:PAlpha} {X Y:PAuto}
structure GM (h₀ h:AHeap) (b L:Nat) (R:List (List Int)) (E:List Bool) (tv ev:AVal) (rb:List Nat):Prop where
 wf:WF h
 hle:Hle h₀ h
 box:Blk h b [tv,ev]
 to:ORow h 1 tv R.length (rb.map (rowS L))
 en:ORow h 1 ev E.length (E.map .bool)
 rows:∀ (i c:Nat) (r:List Int),rb[i]?=some c->R[i]?=some r->Blk h c (r.map vI)/\r.length=L
 nd:(b :: (blkOf tv++(blkOf ev++rb))).Nodup
 ge:∀ j∈b :: (blkOf tv++(blkOf ev++rb)),h₀.next<=j
section
variable {h₀:AHeap} {b L:Nat} {R:List (List Int)} {E:List Bool} {tv ev:AVal} {rb:List Nat}
theorem GM.mono (M:GM h₀ h b L R E tv ev rb) (w:WF h') (l:Hle h h'):GM h₀ h' b L R E tv ev rb :=
 ⟨w,M.hle.trans l,M.box.mono l,M.to.mono l,M.en.mono l,fun i c r h1 h2=>by obtain ⟨h3,h4⟩:=M.rows i c r h1 h2;exact ⟨h3.mono l,h4⟩,M.nd,M.ge⟩
theorem GM.nrb (M:GM h₀ h b L R E tv ev rb):rb.length=R.length:=by have:=M.to.1;simpa using this
theorem GM.lt (M:GM h₀ h b L R E tv ev rb):∀ j∈b :: (blkOf tv++(blkOf ev++rb)),j < h.next:=by
 intro j hj
 simp only [List.mem_cons,List.mem_append] at hj
 rcases hj with rfl | hj | hj | hj
 ·exact M.box.lt M.wf
 ·exact own_lt M.to M.wf j hj
 ·exact own_lt M.en M.wf j hj
 ·obtain ⟨i,hi,rfl⟩:=List.getElem_of_mem hj
  have hi':i < R.length:=by rw [<-M.nrb];exact hi
  exact (M.rows i rb[i] R[i] (by simp [hi]) (by simp [hi'])).1.lt M.wf
theorem GM.push (M:GM h₀ h b L R E tv ev rb) (w₀:WF h₀) {rn:Nat} {r0:List Int} (vr:Blk h rn (r0.map vI)) (hr0:r0.length=L) (hr:rn∉b :: (blkOf tv++(blkOf ev++rb))) (hg:h₀.next<=rn) (hn:R.length < 60000000) :
  ∃ h2 h3,appendA (h.newCells [rowS L rn]) 1 tv (.slice h.next 0 1 1 1)=some (some (.slice (h.next+1) 0 (R.length+1) (R.length+1) 1),h2)/\h2.write b 0 [.slice (h.next+1) 0 (R.length+1) (R.length+1) 1]=some h3 /\
   GM h₀ h3 b L (R++[r0]) E (.slice (h.next+1) 0 (R.length+1) (R.length+1) 1) ev (rb++[rn]):=by
 obtain ⟨h2,a1,a2,w2,n2,kp⟩:=orow_push M.to M.wf [rowS L rn] rfl (by omega) rfl
 have nd:=M.nd
 simp only [List.nodup_cons,List.mem_append,not_or] at nd
 obtain ⟨⟨bt,be,br⟩,nd⟩:=nd
 obtain ⟨ndt,nd,xt⟩:=List.nodup_append.1 nd
 obtain ⟨nde,ndr,xe⟩:=List.nodup_append.1 nd
 simp only [List.mem_cons,List.mem_append,not_or] at hr
 have hlt:=M.lt
 have gB:=M.ge b (by simp)
 have hge:=M.hle.next
 have box2:=Blk.kp M.box (kp b bt)
 obtain ⟨h3,b1,b2,b3⟩:=box2.write1 (i:=0) (c:=.slice (h.next+1) 0 (R.length+1) (R.length+1) 1) (by simp) rfl
 have hb:=M.box.lt M.wf
 have hrl:=vr.lt M.wf
 have kp3:∀ j,j∉blkOf tv->j≠b->Kp h h3 j:=fun j h1 h2=>Kp.trans (kp j h1) (But.kp b3 h2)
 refine ⟨h2,h3,a1,b1,⟨b3.wf w2 (by omega),⟨by rw [b3.next];omega,fun j y e=>kp3 j (fun hj=>?_) (fun e2=>?_) y (M.hle.get j y e)⟩,by simpa using b2,?_,own_kp M.en fun j hj=>kp3 j (fun e=>xt j e j (by simp [hj]) rfl) fun e=>be (e ▸ hj),fun i c r h1 h2=>?_,?_,fun j hj=>?_⟩⟩
 ·have:=M.ge j (by simp [hj]);have:=w₀.lt e;omega
 ·have:=w₀.lt e;omega
 ·rw [List.length_append,List.length_singleton,List.map_append]
  exact own_kp a2 fun j hj=>But.kp b3 (by simp [blkOf] at hj;omega)
 ·have hnb:=M.nrb
  by_cases hi:i < rb.length
  ·rw [List.getElem?_append_left hi] at h1
   rw [List.getElem?_append_left (by omega)] at h2
   obtain ⟨h4,h5⟩:=M.rows i c r h1 h2
   have hc:=List.mem_of_getElem? h1
   exact ⟨Blk.kp h4 (kp3 c (fun e=>xt c e c (by simp [hc]) rfl) fun e=>br (e ▸ hc)),h5⟩
  ·rw [List.getElem?_append_right (by omega)] at h1
   rw [List.getElem?_append_right (by omega)] at h2
   have hz:i - rb.length=0:=by have:=(List.getElem?_eq_some_iff.1 h1).1;simp at this;omega
   rw [hz] at h1
   rw [<-hnb,hz] at h2
   simp at h1 h2
   subst h1;subst h2
   exact ⟨Blk.kp vr (kp3 _ hr.2.1 hr.1),hr0⟩
 ·simp only [blkOf,List.cons_append,List.nil_append,List.nodup_cons,List.mem_cons,List.mem_append,List.not_mem_nil,or_false,not_or]
  have l1:∀ j∈blkOf ev,j < h.next:=fun j hj=>hlt j (by simp [hj])
  have l2:∀ j∈rb,j < h.next:=fun j hj=>hlt j (by simp [hj])
  refine ⟨⟨by omega,be,br,fun e=>hr.1 e.symm⟩,⟨fun e=>by have:=l1 _ e;omega,fun e=>by have:=l2 _ e;omega,by omega⟩,?_⟩
  rw [List.nodup_append]
  refine ⟨nde,?_,fun a ha c hc e=>?_⟩
  ·rw [List.nodup_append]
   exact ⟨ndr,by simp,fun a ha c hc e=>by simp at hc;subst hc;exact hr.2.2.2 (e ▸ ha)⟩
  ·rcases List.mem_append.1 hc with h1 | h1
   ·exact xe a ha c h1 e
   ·simp at h1;subst h1;exact hr.2.2.1 (e ▸ ha)
 ·simp only [blkOf,List.cons_append,List.nil_append,List.mem_cons,List.mem_append,List.not_mem_nil,or_false] at hj
  rcases hj with rfl | rfl | hj | hj | rfl
  ·exact gB
  ·omega
  ·exact M.ge j (List.mem_cons_of_mem _ (List.mem_append_right _ (List.mem_append_left _ hj)))
  ·exact M.ge j (List.mem_cons_of_mem _ (List.mem_append_right _ (List.mem_append_right _ hj)))
  ·exact hg
theorem GM.put (M:GM h₀ h b L R E tv ev rb) (w₀:WF h₀) {n c:Nat} (hn:n < R.length) (hc:c < L) (x:Int):∃ rn h2,indexAddrS 1 tv (.int .i64 (n:Int))=some (.ptr (rowB tv) n)/\h.read1 (rowB tv) n=some (rowS L rn)/\indexAddrS 1 (rowS L rn) (.int .i64 (c:Int))=some (.ptr rn c) /\
  h.write rn c [.int .i64 x]=some h2/\GM h₀ h2 b L (setRC R n c x) E tv ev rb:=by
 have hrb:n < rb.length:=by rw [M.nrb];exact hn
 obtain ⟨i1,i2⟩:=orow_at M.to hn (c:=rowS L rb[n]) (by simp [hrb]) rfl
 obtain ⟨vb,vl⟩:=M.rows n rb[n] R[n] (by simp [hrb]) (by simp [hn])
 obtain ⟨h2,a1,a2,a3⟩:=vb.write1 (i:=c) (c:=vI x) (by simp only [List.length_map];omega) rfl
 rw [<-List.map_set] at a2
 have hmem:rb[n]∈rb:=List.getElem_mem hrb
 have nd:=M.nd
 simp only [List.nodup_cons,List.mem_append,not_or] at nd
 obtain ⟨⟨bt,be,br⟩,nd⟩:=nd
 obtain ⟨ndt,nd,xt⟩:=List.nodup_append.1 nd
 obtain ⟨nde,ndr,xe⟩:=List.nodup_append.1 nd
 have gd:R.getD n []=R[n]:=by rw [List.getD_eq_getElem?_getD,List.getElem?_eq_getElem hn];rfl
 have kp:∀ j,j≠rb[n]->Kp h h2 j:=fun j hj=>But.kp a3 hj
 refine ⟨rb[n],h2,i1,i2,by simp [rowS,indexAddrS,Nat.succ_le_iff,hc],a1,⟨a3.wf M.wf (vb.lt M.wf),a3.hle M.hle w₀ (M.ge _ (by simp [hmem])),Blk.kp M.box (kp b fun e=>br (e ▸ hmem)),?_,own_kp M.en fun j hj=>kp j fun e=>xe j hj rb[n] hmem e,fun i c0 r h1 h2=>?_,M.nd,M.ge⟩⟩
 ·rw [setRC_length];exact own_kp M.to fun j hj=>kp j fun e=>xt j hj rb[n] (by simp [hmem]) e
 by_cases hi:i=n
 ·subst hi
  rw [List.getElem?_eq_getElem hrb] at h1
  cases h1
  unfold setRC at h2
  rw [List.getElem?_set_self hn,gd] at h2
  cases h2
  exact ⟨a2,by simpa using vl⟩
 ·unfold setRC at h2
  rw [List.getElem?_set_ne (fun e=>hi e.symm)] at h2
  obtain ⟨h3,h4⟩:=M.rows i c0 r h1 h2
  refine ⟨Blk.kp h3 (kp c0 fun e=>?_),h4⟩
  have hi':=(List.getElem?_eq_some_iff.1 h1).1
  have e2:rb[i]=rb[n]:=by rw [<-e];exact (List.getElem?_eq_some_iff.1 h1).2
  exact nodup_ne ndr hi' hrb hi e2
theorem GM.mark {st:Nat} {p q:Nat->Bool} (M:GM h₀ h b L R ((List.range st).map p) tv ev rb) (w₀:WF h₀) {t:Nat} (ht:t < st) (h1:q t=true) (h2:∀ j,j≠t->q j=p j):∃ h2,indexAddrS 1 ev (.int .i64 (t:Int))=some (.ptr (rowB ev) t)/\h.write (rowB ev) t [.bool true]=some h2/\GM h₀ h2 b L R ((List.range st).map q) tv ev rb:=by
 have o:ORow h 1 ev st (((List.range st).map p).map .bool):=by simpa using M.en
 obtain ⟨h2',a0,a1,a2,a3,a4⟩:=marks_write (q:=q) o M.wf ht h1 h2
 have hr:=rowB_mem o (by omega)
 have nd:=M.nd
 simp only [List.nodup_cons,List.mem_append,not_or] at nd
 obtain ⟨⟨bt,be,br⟩,nd⟩:=nd
 obtain ⟨ndt,nd,xt⟩:=List.nodup_append.1 nd
 obtain ⟨nde,ndr,xe⟩:=List.nodup_append.1 nd
 have kp:∀ j,j∉blkOf ev->Kp h h2' j:=fun j hj=>But.kp a3 fun e=>hj (e ▸ hr)
 exact ⟨h2',a0,a1,⟨a4,a3.hle M.hle w₀ (M.ge _ (by simp [hr])),Blk.kp M.box (kp b be),own_kp M.to fun j hj=>kp j fun e=>xt j hj j (by simp [e]) rfl,by simpa using a2,fun i c r h1 h2=>by
  obtain ⟨h3,h4⟩:=M.rows i c r h1 h2
  exact ⟨Blk.kp h3 (kp c fun e=>xe c e c (List.mem_of_getElem? h1) rfl),h4⟩,M.nd,M.ge⟩⟩
theorem GM.graph (M:GM h₀ h b L R E tv ev rb) (kp:∀ j∈b :: (blkOf tv++(blkOf ev++rb)),Kp h h' j):IsGraph h' tv ev R E:=by
 refine ⟨⟨rb.map (rowS L),by simp [M.nrb],(own_kp M.to fun j hj=>kp j (by simp [hj])).row1,fun i r x h1 h2=>?_⟩,(own_kp M.en fun j hj=>kp j (by simp [hj])).row1⟩
 rw [List.getElem?_map] at h2
 cases hb:rb[i]? with
 | none=>rw [hb] at h2;cases h2
 | some c =>
  rw [hb] at h2;cases h2
  obtain ⟨h3,h4⟩:=M.rows i c r hb h1
  have:=(Blk.kp h3 (kp c (by simp [List.mem_of_getElem? hb]))).row1 (cap:=L) (by simp [h4])
  simpa [rowS,h4] using this
end
def GraphO (n:Nat) (h:AHeap) (to en:AVal) (R:List (List Int)) (E:List Bool):Prop:=∀ h',(∀ j,n<=j->Kp h h' j)->IsGraph h' to en R E
theorem GraphO.it {n:Nat} {to en:AVal} {R:List (List Int)} {E:List Bool} (g:GraphO n h to en R E):IsGraph h to en R E:=g h fun _ _=>Kp.refl _ _
theorem GraphO.kp {n:Nat} {to en:AVal} {R:List (List Int)} {E:List Bool} (g:GraphO n h to en R E) (k:∀ j,n<=j->Kp h h' j):GraphO n h' to en R E:=fun h'' k2=>g h'' fun j hj=>Kp.trans (k j hj) (k2 j hj)
theorem GraphO.mono {n:Nat} {to en:AVal} {R:List (List Int)} {E:List Bool} (g:GraphO n h to en R E) (l:Hle h h'):GraphO n h' to en R E:=g.kp fun j _=>l.get j
theorem GraphO.up {n m:Nat} {to en:AVal} {R:List (List Int)} {E:List Bool} (g:GraphO n h to en R E) (l:m<=n):GraphO m h to en R E:=fun h'' k2=>g h'' fun j hj=>k2 j (Nat.le_trans l hj)
noncomputable def grE (A:PAlpha) (X:PAuto):Int:=if autoE A X≠0 then autoE A X else if ¬ capOk (detR A X)=true then 9 else 0
theorem grE_lst (A:PAlpha) (X:PAuto):(lstX A X).2=grE A X:=by
 unfold lstX grE
 split
 ·rfl
 ·split<;>rfl
theorem grE_zero (h:grE A X=0):AlphaOk A/\AutoOk A X/\capOk (detR A X)=true/\(lstX A X).1=minY A X:=by
 unfold grE at h
 split at h
 ·contradiction
 ·rename_i h1
  split at h
  ·cases h
  ·rename_i h2
   simp only [ne_eq,Decidable.not_not] at h1
   obtain ⟨a,b⟩:=autoE_zero.1 h1
   exact ⟨a,b,by simpa using h2,by unfold lstX;rw [if_neg (by simp [h1]),if_neg h2]⟩
set_option maxHeartbeats 2000000 in
theorem f86 (hA:IsAlpha h fe le A) (hX:IsAuto h en mo X)
  (H1:grE A X=0->∀ h' to en,WF h'->Hle h h'->GraphO h.next h' to en (mR A X) (mE A X)->k (.tup [.agg [to,en],.int .i64 0]) h')
  (H0:grE A X≠0->∀ h',WF h'->Hle h h'->k (.tup [.agg [.nils,.nils],.int .i64 (grE A X)]) h'):Cf 86 [.agg [fe,le],aV X.states en mo] h k:=by
 refine use_code compiled86 fun hw=>?_
 have w1:=hw.newCells [fe,le]
 have le1:=Hle.newCells hw [fe,le]
 have w2:=w1.newCells [.int .i64 X.states,en,mo]
 have le2:=Hle.newCells w1 [.int .i64 X.states,en,mo]
 have w3:=w2.newCells [.nils,.nils]
 have le3:=Hle.newCells w2 [.nils,.nils]
 have leh:=(le1.trans le2).trans le3
 have va:=((Blk.new h [fe,le]).mono le2).mono le3
 have vx:=(Blk.new (h.newCells [fe,le]) [.int .i64 X.states,en,mo]).mono le3
 have vr:=Blk.new ((h.newCells [fe,le]).newCells [.int .i64 X.states,en,mo]) [.nils,.nils]
 simp only [next_newCells] at vx vr
 have ra:=va.rd (off:=0) (n:=2) (l:=[fe,le]) (by simp) rfl
 have rx:=vx.rd (off:=0) (n:=3) (l:=[.int .i64 X.states,en,mo]) (by simp) rfl
 have alen:=hA.llen
 simp [fn86,aV,ra,rx]
 generalize hg0:((h.newCells [fe,le]).newCells [.int .i64 X.states,en,mo]).newCells [.nils,.nils]=g0 at *
 have gn:g0.next=h.next+3:=by rw [<-hg0];simp
 refine f28 (hA.mono leh) (hX.mono leh) fun g1 ze zm wg1 l1 iz oz=>?_
 have w4:=wg1.newCells [.int .i64 0,.nils,.nils]
 have l4:=Hle.newCells wg1 [.int .i64 0,.nils,.nils]
 obtain ⟨g2,c1,c2,c3⟩:=(Blk.new g1 [.int .i64 0,.nils,.nils]).write (off:=0) (vs:=[.int .i64 (lstX A X).1.states,ze,zm]) (by simp) (one3 rfl oz.oe.one oz.om.one)
 have c2:Blk g2 g1.next [.int .i64 (lstX A X).1.states,ze,zm]:=by simpa using c2
 have l2:=c3.hle l4 wg1 (Nat.le_refl _)
 have wg2:=c3.wf w4 (by simp)
 have lA:=l1.trans l2
 rw [grE_lst]
 simp [aV,c1]
 refine ap_split (fun hc=>?_) (fun hc=>?_)
 rotate_left
 ·obtain ⟨g3,y1,y2,y3⟩:=(vr.mono lA).write (off:=0) (vs:=[.nils,.nils]) (by simp) rfl
  have y2:Blk g3 (h.next+1+1) [.nils,.nils]:=by simpa using y2
  have r2:=y2.rd (off:=0) (n:=2) (l:=[.nils,.nils]) (by simp) rfl
  simp [y1,r2]
  intro w
  exact H0 hc g3 w (y3.hle (leh.trans lA) hw (by omega))
 obtain ⟨ha,hx,cok,hm⟩:=grE_zero hc
 have H1:=H1 hc
 rw [hm] at c2 iz
 obtain ⟨s1,s2,s3⟩:=minY_st cok
 have W:=minY_w A X
 have eR:mR A X=(minY A X).moves.foldl (putM A.letters) (blankR A.letters.length (minY A X).states.toNat):=rfl
 have eE:mE A X=(List.range (minY A X).states.toNat).map fun n:Nat=>decide ((n:Int)∈(minY A X).ends):=rfl
 rw [eR,eE] at H1
 generalize minY A X=Z at *
 generalize hst:Z.states.toNat=st at *
 rw [<-s3] at c2
 have hL1:=ha.1.2.1
 have hL:=ha.1.2.2
 have r0:=c2.rd1 (i:=0) (c:=.int .i64 (st:Int)) rfl
 have wB:=wg2.newCells (List.replicate st (.bool false))
 have lB:=Hle.newCells wg2 (List.replicate st (.bool false))
 have wC:=wB.newCells [.nils,.nils]
 have lC:=Hle.newCells wB [.nils,.nils]
 obtain ⟨g4,d1,d2,d3⟩:=(Blk.new (g2.newCells (List.replicate st (.bool false))) [.nils,.nils]).write (off:=0) (vs:=[.nils,.slice g2.next 0 st st 1]) (by simp) rfl
 simp only [next_newCells] at d1 d2 d3
 have d2:Blk g4 (g2.next+1) [.nils,.slice g2.next 0 st st 1]:=by simpa using d2
 simp [r0,repeatL_one]
 rw [decide_eq_true (by omega:st<=16777216)]
 simp [listPut,d1]
 have M0:GM g2 g4 (g2.next+1) A.letters.length (blankR A.letters.length 0) ((List.range st).map fun _=>false) .nils (.slice g2.next 0 st st 1) []:=by
  refine ⟨d3.wf wC (by simp),d3.hle (lB.trans lC) wg2 (by omega),d2,by simpa [blankR] using ORow.nil _ 1,?_,fun i c r h1 _=>by simp at h1,by simp [blkOf],fun j hj=>by simp [blkOf] at hj;omega⟩
  have o:=(fresh_marks g2 st (p:=fun _=>false) fun _=>rfl).mono lC
  have o:=own_kp o fun j hj=>But.kp d3 (by simp [blkOf] at hj;omega)
  simpa using o
 clear d1 d2 d3 wB lB wC lC
 rw [L86_1]
 refine loop_by (σ:=Nat) (fun i h'=>i<=st/\∃ tv rb,GM g2 h' (g2.next+1) A.letters.length (blankR A.letters.length i) ((List.range st).map fun _=>false) tv (.slice g2.next 0 st st 1) rb)
  (fun i=>[(2,.ptr h.next 0),(4,.ptr (h.next+1+1) 0),(6,.ptr g1.next 0),(8,.ptr (g2.next+1) 0),(9,.int .i64 i)]) (fun i=>st - i) 0 (by simp) ?_ ?_
 ·exact ⟨Nat.zero_le _,.nils,[],M0⟩
 clear M0
 rintro i h5 K ⟨hi,tv,rb,M⟩ hK
 have r5:=(c2.mono M.hle).rd1 (i:=0) (c:=.int .i64 (st:Int)) rfl
 simp [r5]
 refine ap_split (fun hq=>?_) (fun hq=>?_)
 ·have hq:i < st:=by omega
  have t5:=M.box.rd1 (i:=0) (c:=tv) rfl
  have ra5:=(va.mono (lA.trans M.hle)).rd1 (i:=1) (c:=le) rfl
  have wr:wrapF .i64 ((i:Int)+1)=(i:Int)+1:=wrap64 (by omega) (by omega)
  simp [t5,ra5,alen]
  refine f75 (n:=A.letters.length) (by omega) fun h6 w6 l6 n6 row6=>?_
  have M6:=M.mono w6 l6
  have t6:=M6.box.rd1 (i:=0) (c:=tv) rfl
  have st6:=same_orow M6.to
  have hlt:=M.lt
  obtain ⟨h7,h8,z1,z2,M8⟩:=M6.push wg2 (rn:=h5.next) (r0:=List.replicate A.letters.length (-1)) (by rw [List.map_replicate];exact row6) (by simp) (fun e=>by have:=hlt _ e;omega) M.hle.next (by simp [blankR];omega)
  have bl:(blankR A.letters.length i).length=i:=by simp [blankR]
  rw [bl] at z1 z2
  simp only [rowS] at z1
  have t6':=(M6.box.mono (Hle.newCells w6 [.slice h5.next 0 A.letters.length A.letters.length 1])).rd1 (i:=0) (c:=tv) rfl
  simp [t6,st6,listPut,t6',z1,z2,wr]
  rw [<-blankR_succ] at M8
  exact hK (i+1) _ _ (by omega) (by simp) ⟨by omega,_,_,M8⟩
 ·have hist:i=st:=by omega
  rw [hist] at M
  have zl:=iz.mo.len
  simp only [List.length_map] at zl
  have zm1:=iz.nm
  simp
  rw [L86_2]
  clear hK hq hi hist r5 K
  have hrl:∀ i,((Z.moves.take i).foldl (putM A.letters) (blankR A.letters.length st)).length=st:=fun i=>by rw [foldM_length];simp [blankR]
  refine loop_by (σ:=Nat) (fun i h'=>i<=Z.moves.length/\GM g2 h' (g2.next+1) A.letters.length ((Z.moves.take i).foldl (putM A.letters) (blankR A.letters.length st)) ((List.range st).map fun _=>false) tv (.slice g2.next 0 st st 1) rb)
   (fun i=>[(2,.ptr h.next 0),(4,.ptr (h.next+1+1) 0),(6,.ptr g1.next 0),(8,.ptr (g2.next+1) 0),(10,.int .i64 i)]) (fun i=>Z.moves.length - i) 0 (by simp) ?_ ?_
  ·exact ⟨Nat.zero_le _,M⟩
  clear M h5
  rintro i h5 K ⟨hi,M⟩ hK
  have r5:=(c2.mono M.hle).rd1 (i:=2) (c:=zm) rfl
  simp [r5,zl]
  refine ap_split (fun hq=>?_) (fun hq=>?_)
  ·have hq:i < Z.moves.length:=by omega
   obtain ⟨i1,i2,i3,i4,i5⟩:=W.mo _ (List.getElem_mem hq)
   rw [hst] at i2 i4
   have zr:=iz.mo.mono (l2.trans M.hle)
   have b1:=zr.idx (i:=i) (by simpa using hq) .i64
   have hg:(Z.moves.map PMove.cells)[i]?=some Z.moves[i].cells:=by simp [hq]
   have b20:=zr.rd1_0 (i:=i) hg (c:=.int .i64 Z.moves[i].src) rfl
   have b21:=zr.rd1 (i:=i) (f:=1) hg (c:=.int .i64 Z.moves[i].dst) rfl
   have b22:=zr.rd1 (i:=i) (f:=2) hg (c:=.int .i32 Z.moves[i].rune) rfl
   have e0:(Z.moves.take (i+1)).foldl (putM A.letters) (blankR A.letters.length st)=putM A.letters ((Z.moves.take i).foldl (putM A.letters) (blankR A.letters.length st)) Z.moves[i]:=by
    rw [List.take_succ_eq_append_getElem hq,List.foldl_append];rfl
   generalize Z.moves[i]=mv at *
   obtain ⟨c,hcl,hcr⟩:∃ c:Nat,c < A.letters.length/\number A.letters mv.rune 0=(c:Int):=by
    have h1:number A.letters mv.rune 0≠-1:=fun e=>(number_neg A.letters mv.rune 0).1 e i5
    rcases number_ge A.letters mv.rune 0 with h2 | h2
    ·exact absurd h2 h1
    ·exact ⟨(number A.letters mv.rune 0).toNat,by omega,by omega⟩
   obtain ⟨src,hsrc⟩:=Int.eq_ofNat_of_zero_le i1
   have t5:=M.box.rd1 (i:=0) (c:=tv) rfl
   have ra5:=(va.mono (lA.trans M.hle)).rd (off:=0) (n:=2) (l:=[fe,le]) (by simp) rfl
   have wr:wrapF .i64 ((i:Int)+1)=(i:Int)+1:=wrap64 (by omega) (by omega)
   rw [hsrc] at b20
   obtain ⟨rn,_,j1,j2,j3,_,_⟩:=M.put wg2 (n:=src) (c:=c) (by rw [hrl];omega) hcl mv.dst
   simp [r5,t5,b1,b20,b21,b22,j1,j2,ra5]
   refine f76 (hA.mono (leh.trans (lA.trans M.hle))) fun h6 w6 l6=>?_
   rw [hcr]
   have M6:=M.mono w6 l6
   have r6:=(c2.mono M6.hle).rd1 (i:=2) (c:=zm) rfl
   have t6:=M6.box.rd1 (i:=0) (c:=tv) rfl
   have zr6:=iz.mo.mono (l2.trans M6.hle)
   have b20':=zr6.rd1_0 (i:=i) hg (c:=.int .i64 mv.src) rfl
   have b21':=zr6.rd1 (i:=i) (f:=1) hg (c:=.int .i64 mv.dst) rfl
   rw [hsrc] at b20'
   obtain ⟨rn',h7,k1,k2,k3,k4,M7⟩:=M6.put wg2 (n:=src) (c:=c) (by rw [hrl];omega) hcl mv.dst
   have sz:=same_row iz.mo
   have stv:=same_orow M6.to
   have j2':h6.read1 (rowB tv) src=some (rowS A.letters.length rn):=read1_hle l6 j2
   have ern:rowS A.letters.length rn'=rowS A.letters.length rn:=Option.some.inj (k2.symm.trans j2')
   rw [ern] at k3
   have ern':rn'=rn:=by simp only [rowS] at ern;injection ern
   rw [ern'] at k3 k4
   simp only [rowS] at j2' k3
   have sS:sameV (rowS A.letters.length rn) (rowS A.letters.length rn)=true:=by simp [rowS]
   simp only [rowS] at sS
   simp [r6,t6,b20',b21',sz,stv,j2',k3,k4,wr,rowS]
   refine hK (i+1) _ _ (by omega) (by simp) ⟨by omega,?_⟩
   rw [e0]
   unfold putM rankN
   rw [hsrc,hcr]
   exact M7
  ·have:i=Z.moves.length:=by omega
   subst this
   rw [List.take_length] at M
   have el:=iz.en.len
   simp only [List.length_map] at el
   have ze1:=iz.ne
   simp
   rw [L86_3]
   clear hK hq hi r5 K hrl
   refine loop_by (σ:=Nat) (fun i h'=>i<=Z.ends.length/\GM g2 h' (g2.next+1) A.letters.length (Z.moves.foldl (putM A.letters) (blankR A.letters.length st)) ((List.range st).map fun j:Nat=>decide ((j:Int)∈Z.ends.take i)) tv (.slice g2.next 0 st st 1) rb)
    (fun i=>[(4,.ptr (h.next+1+1) 0),(6,.ptr g1.next 0),(8,.ptr (g2.next+1) 0),(11,.int .i64 i)]) (fun i=>Z.ends.length - i) 0 (by simp) ?_ ?_
   ·refine ⟨Nat.zero_le _,?_⟩
    have e:(fun j:Nat=>decide ((j:Int)∈Z.ends.take 0))=fun _=>false:=by funext j;simp
    rw [e];exact M
   clear M h5
   rintro i h5 K ⟨hi,M⟩ hK
   have r5:=(c2.mono M.hle).rd1 (i:=1) (c:=ze) rfl
   simp [r5,el]
   refine ap_split (fun hq=>?_) (fun hq=>?_)
   ·have hq:i < Z.ends.length:=by omega
    have e1:=iz.en.idx (i:=i) (by simpa using hq) .i64
    have e2:=(iz.en.mono (l2.trans M.hle)).rd (i:=i) (c:=vI Z.ends[i]) (by simp [hq])
    have eb:=W.en.2 _ (List.getElem_mem hq)
    rw [hst] at eb
    have tk:=fun x:Int=>mem_take_succ hq x
    obtain ⟨t,ht⟩:=Int.eq_ofNat_of_zero_le eb.1
    rw [ht] at e2 tk
    simp only [vI] at e2
    have t5:=M.box.rd1 (i:=1) (c:=.slice g2.next 0 st st 1) rfl
    have wr:wrapF .i64 ((i:Int)+1)=(i:Int)+1:=wrap64 (by omega) (by omega)
    obtain ⟨h6,a0,a1,M6⟩:=M.mark wg2 (q:=fun j:Nat=>decide ((j:Int)∈Z.ends.take (i+1))) (t:=t) (by omega) (by rw [tk];simp) (fun j hj=>by
     rw [tk,decide_eq_false (by omega:¬ ((j:Int)=(t:Int)))];simp)
    simp only [rowB_s] at a0 a1
    simp [r5,t5,e1,e2,a0,a1,wr]
    exact hK (i+1) _ _ (by omega) (by simp) ⟨by omega,M6⟩
   ·have:i=Z.ends.length:=by omega
    subst this
    rw [List.take_length] at M
    have r8:=M.box.rd (off:=0) (n:=2) (l:=[tv,.slice g2.next 0 st st 1]) (by simp) rfl
    obtain ⟨g6,y1,y2,y3⟩:=(vr.mono (lA.trans M.hle)).write (off:=0) (vs:=[tv,.slice g2.next 0 st st 1]) (by simp) (two_one M.to.one rfl)
    have y2:Blk g6 (h.next+1+1) [tv,.slice g2.next 0 st st 1]:=by simpa using y2
    have r9:=y2.rd (off:=0) (n:=2) (l:=[tv,.slice g2.next 0 st st 1]) (by simp) rfl
    simp [r8,y1,r9]
    intro w
    refine H1 g6 _ _ w (y3.hle (leh.trans (lA.trans M.hle)) hw (by omega)) (fun h'' k2=>M.graph fun j hj=>?_)
    have:=M.ge j hj;have:=lA.next
    exact Kp.trans (But.kp y3 (by omega)) (k2 j (by omega))
end Go.Ab.Z
namespace Go.Ab.Z
open Go Go.Ab
variable {h h':AHeap} {k:Post} {fe le en mo en' mo':AVal} {A:PAlpha} {X Y:PAuto}
theorem graph_one {to en:AVal} {R:List (List Int)} {E:List Bool} (g:IsGraph h to en R E):oneA to=true/\oneA en=true:=⟨row_one g.to.choose_spec.2.1,row_one g.en⟩
theorem row_same1 {sz:Nat} {v:AVal} {ls:List (List AVal)} (r:Row h sz v ls):same1 v v=true:=by
 obtain ⟨_,⟨rfl,_⟩ | ⟨b,off,cap,rfl,_⟩⟩:=r<;>simp [same1]
theorem grE_eq (h:autoE A X=0):grE A X=if ¬ capOk (detR A X)=true then 9 else 0:=by unfold grE;rw [if_neg (by simp [h])]
theorem f53 (hA:IsAlpha h fe le A) (hX:IsAuto h en mo X) (hY:IsAuto h en' mo' Y)
  (H1:bothE A X Y=0->∀ h' t1 e1 t2 e2,WF h'->Hle h h'->GraphO h.next h' t1 e1 (mR A X) (mE A X)->GraphO h.next h' t2 e2 (mR A Y) (mE A Y)->k (.tup [.agg [t1,e1],.agg [t2,e2],.int .i64 0]) h')
  (H0:bothE A X Y≠0->∀ h' t1 e1 t2 e2,WF h'->Hle h h'->oneA t1=true->oneA e1=true->oneA t2=true->oneA e2=true->k (.tup [.agg [t1,e1],.agg [t2,e2],.int .i64 (bothE A X Y)]) h') :
  Cf 53 [.agg [fe,le],aV X.states en mo,aV Y.states en' mo'] h k:=by
 refine use_code compiled53 fun hw=>?_
 have w1:=hw.newCells [fe,le]
 have le1:=Hle.newCells hw [fe,le]
 have w2:=w1.newCells [.int .i64 X.states,en,mo]
 have le2:=Hle.newCells w1 [.int .i64 X.states,en,mo]
 have w3:=w2.newCells [.int .i64 Y.states,en',mo']
 have le3:=Hle.newCells w2 [.int .i64 Y.states,en',mo']
 have w4:=w3.newCells [.nils,.nils]
 have le4:=Hle.newCells w3 [.nils,.nils]
 have w5:=w4.newCells [.nils,.nils]
 have le5:=Hle.newCells w4 [.nils,.nils]
 have leh:=(((le1.trans le2).trans le3).trans le4).trans le5
 have va:=((((Blk.new h [fe,le]).mono le2).mono le3).mono le4).mono le5
 have vx:=(((Blk.new (h.newCells [fe,le]) [.int .i64 X.states,en,mo]).mono le3).mono le4).mono le5
 have vy:=((Blk.new ((h.newCells [fe,le]).newCells [.int .i64 X.states,en,mo]) [.int .i64 Y.states,en',mo']).mono le4).mono le5
 have v6:=(Blk.new (((h.newCells [fe,le]).newCells [.int .i64 X.states,en,mo]).newCells [.int .i64 Y.states,en',mo']) [.nils,.nils]).mono le5
 have v7:=Blk.new ((((h.newCells [fe,le]).newCells [.int .i64 X.states,en,mo]).newCells [.int .i64 Y.states,en',mo']).newCells [.nils,.nils]) [.nils,.nils]
 simp only [next_newCells] at vx vy v6 v7
 have ra:=fun {g:AHeap} (l:Hle (((((h.newCells [fe,le]).newCells [.int .i64 X.states,en,mo]).newCells [.int .i64 Y.states,en',mo']).newCells [.nils,.nils]).newCells [.nils,.nils]) g)=>(va.mono l).rd (off:=0) (n:=2) (l:=[fe,le]) (by simp) rfl
 have rx:=fun {g:AHeap} (l:Hle (((((h.newCells [fe,le]).newCells [.int .i64 X.states,en,mo]).newCells [.int .i64 Y.states,en',mo']).newCells [.nils,.nils]).newCells [.nils,.nils]) g)=>(vx.mono l).rd (off:=0) (n:=3) (l:=[.int .i64 X.states,en,mo]) (by simp) rfl
 have ry:=fun {g:AHeap} (l:Hle (((((h.newCells [fe,le]).newCells [.int .i64 X.states,en,mo]).newCells [.int .i64 Y.states,en',mo']).newCells [.nils,.nils]).newCells [.nils,.nils]) g)=>(vy.mono l).rd (off:=0) (n:=3) (l:=[.int .i64 Y.states,en',mo']) (by simp) rfl
 have rx0:=rx (Hle.refl _)
 have ra0:=ra (Hle.refl _)
 simp [fn53,aV,rx0,ra0]
 generalize hg0:((((h.newCells [fe,le]).newCells [.int .i64 X.states,en,mo]).newCells [.int .i64 Y.states,en',mo']).newCells [.nils,.nils]).newCells [.nils,.nils]=g0 at *
 have gn:g0.next=h.next+5:=by rw [<-hg0];simp
 have fin:∀ (g:AHeap) (t1 e1 t2 e2:AVal),WF g->Hle g0 g->oneA t1=true->oneA e1=true->oneA t2=true->oneA e2=true->∃ g1 g2,g.write (h.next+1+1+1) 0 [t1,e1]=some g1/\g1.write (h.next+1+1+1+1) 0 [t2,e2]=some g2 /\
   g2.read (h.next+1+1+1) 0 2=some [t1,e1]/\g2.read (h.next+1+1+1+1) 0 2=some [t2,e2]/\Hle h g2/\(∀ j,g0.next<=j->Kp g g2 j)/\∀ c,h.next+5<=c->∀ cs,Blk g c cs->Blk g1 c cs:=by
  intro g t1 e1 t2 e2 wg lg o1 o2 o3 o4
  obtain ⟨g1,a1,a2,a3⟩:=(v6.mono lg).write (off:=0) (vs:=[t1,e1]) (by simp) (two_one o1 o2)
  have a2:Blk g1 (h.next+1+1+1) [t1,e1]:=by simpa using a2
  obtain ⟨g2,b1,b2,b3⟩:=(Blk.kp (v7.mono lg) (But.kp a3 (by omega))).write (off:=0) (vs:=[t2,e2]) (by simp) (two_one o3 o4)
  have b2:Blk g2 (h.next+1+1+1+1) [t2,e2]:=by simpa using b2
  have a2':=Blk.kp a2 (But.kp b3 (by omega))
  exact ⟨g1,g2,a1,b1,a2'.rd (off:=0) (n:=2) (by simp) rfl,b2.rd (off:=0) (n:=2) (by simp) rfl,b3.hle (a3.hle (leh.trans lg) hw (by omega)) hw (by omega),fun j hj=>Kp.trans (But.kp a3 (by omega)) (But.kp b3 (by omega)),fun c hc cs v=>Blk.kp v (But.kp a3 (by omega))⟩
 clear va vx vy
 refine f36 (hA.mono leh) (hX.mono leh) fun g1 w1' l1=>?_
 simp
 refine ap_split (fun hc=>?_) (fun hc=>?_)
 rotate_left
 ·have hb:bothE A X Y=autoE A X:=by unfold bothE;rw [if_pos hc]
  obtain ⟨g2,g3,z1,z2,z3,z4,z5,_⟩:=fin g1 .nils .nils .nils .nils w1' l1 rfl rfl rfl rfl
  simp [z1,z2,z3,z4]
  exact fun w=>hb ▸ H0 (by rw [hb];exact hc) g3 .nils .nils .nils .nils w z5 rfl rfl rfl rfl
 have hx0:autoE A X=0:=hc
 simp [ra l1,ry l1]
 refine f36 (hA.mono (leh.trans l1)) (hY.mono (leh.trans l1)) fun g2 w2' l2=>?_
 have l12:=l1.trans l2
 simp
 refine ap_split (fun hc2=>?_) (fun hc2=>?_)
 rotate_left
 ·have hb:bothE A X Y=autoE A Y:=by unfold bothE;rw [if_neg (by simp [hx0]),if_pos hc2]
  obtain ⟨g3,g4,z1,z2,z3,z4,z5,_⟩:=fin g2 .nils .nils .nils .nils w2' l12 rfl rfl rfl rfl
  simp [z1,z2,z3,z4]
  exact fun w=>hb ▸ H0 (by rw [hb];exact hc2) g4 .nils .nils .nils .nils w z5 rfl rfl rfl rfl
 have hy0:autoE A Y=0:=hc2
 have gx:=grE_eq hx0
 have gy:=grE_eq hy0
 have lay:∀ (g:AHeap) (t e:AVal),WF g->oneA t=true->oneA e=true->∃ g',(g.newCells [.nils,.nils]).write g.next 0 [t,e]=some g'/\Blk g' g.next [t,e]/\Hle g g'/\WF g':=by
  intro g t e wg o1 o2
  have wA:=wg.newCells [.nils,.nils]
  have lA:=Hle.newCells wg [.nils,.nils]
  obtain ⟨g',a1,a2,a3⟩:=(Blk.new g [.nils,.nils]).write (off:=0) (vs:=[t,e]) (by simp) (two_one o1 o2)
  exact ⟨g',a1,by simpa using a2,a3.hle lA wg (Nat.le_refl _),a3.wf wA (by simp)⟩
 simp [ra l12,rx l12]
 refine f86 (hA.mono (leh.trans l12)) (hX.mono (leh.trans l12)) (fun c1 g3 t1 e1 w3' l3 G1=>?_) (fun c1 g3 w3' l3=>?_)
 rotate_left
 ·have hb:bothE A X Y=grE A X:=by
   unfold bothE;rw [if_neg (by simp [hx0]),if_neg (by simp [hy0]),gx]
   rw [gx] at c1
   split
   ·rfl
   ·rename_i h;rw [if_neg h] at c1;simp at c1
  obtain ⟨g4,y1,y2,y3,y4⟩:=lay g3 .nils .nils w3' rfl rfl
  have l14:=l12.trans (l3.trans y3)
  obtain ⟨g5,g6,z1,z2,z3,z4,z5,_⟩:=fin g4 .nils .nils .nils .nils y4 l14 rfl rfl rfl rfl
  have d:decide (grE A X=0)=false:=decide_eq_false c1
  simp [y1]
  simp only [d]
  simp [z1,z2,z3,z4]
  exact fun w=>hb ▸ H0 (by rw [hb];exact c1) g6 .nils .nils .nils .nils w z5 rfl rfl rfl rfl
 have cx:capOk (detR A X)=true:=by
  rw [gx] at c1
  apply Decidable.byContradiction
  intro h;rw [if_pos h] at c1;cases c1
 have l13:=l12.trans l3
 obtain ⟨o1,o2⟩:=graph_one G1.it
 obtain ⟨g4,y1,y2,y3,y4⟩:=lay g3 t1 e1 w3' o1 o2
 have l14:=l13.trans y3
 simp [y1,ra l14,ry l14]
 have Kx:=G1.mono y3
 refine f86 (hA.mono (leh.trans l14)) (hY.mono (leh.trans l14)) (fun c2 g5 t2 e2 w5' l5 G2=>?_) (fun c2 g5 w5' l5=>?_)
 rotate_left
 ·have hb:bothE A X Y=grE A Y:=by
   unfold bothE;rw [if_neg (by simp [hx0]),if_neg (by simp [hy0]),if_neg (by simp [cx]),gy]
  obtain ⟨g6,x1,x2,x3,x4⟩:=lay g5 .nils .nils w5' rfl rfl
  have l16:=l14.trans (l5.trans x3)
  obtain ⟨g7,g8,z1,z2,z3,z4,z5,z6,z7⟩:=fin g6 t1 e1 .nils .nils x4 l16 o1 o2 rfl rfl
  have r10:=(y2.mono (l5.trans x3)).rd (off:=0) (n:=2) (l:=[t1,e1]) (by simp) rfl
  have r11:=x2.rd (off:=0) (n:=2) (l:=[.nils,.nils]) (by simp) rfl
  have g5n:h.next+5<=g5.next:=by have:=(l14.trans l5).next;omega
  have r11':=(z7 g5.next g5n _ x2).rd (off:=0) (n:=2) (l:=[.nils,.nils]) (by simp) rfl
  simp [x1,r10,r11,r11',z1,z2,z3,z4,sameV,sameL,same1]
  exact fun w=>hb ▸ H0 (by rw [hb];exact c2) g8 t1 e1 .nils .nils w z5 o1 o2 rfl rfl
 have cy:capOk (detR A Y)=true:=by
  rw [gy] at c2
  apply Decidable.byContradiction
  intro h;rw [if_pos h] at c2;cases c2
 have hb:bothE A X Y=0:=by unfold bothE;rw [if_neg (by simp [hx0]),if_neg (by simp [hy0]),if_neg (by simp [cx]),if_neg (by simp [cy])]
 obtain ⟨o3,o4⟩:=graph_one G2.it
 obtain ⟨g6,x1,x2,x3,x4⟩:=lay g5 t2 e2 w5' o3 o4
 have l16:=l14.trans (l5.trans x3)
 obtain ⟨g7,g8,z1,z2,z3,z4,z5,z6,z7⟩:=fin g6 t1 e1 t2 e2 x4 l16 o1 o2 o3 o4
 have r10:=(y2.mono (l5.trans x3)).rd (off:=0) (n:=2) (l:=[t1,e1]) (by simp) rfl
 have r11:=x2.rd (off:=0) (n:=2) (l:=[t2,e2]) (by simp) rfl
 have g5n:h.next+5<=g5.next:=by have:=(l14.trans l5).next;omega
 have r11':=(z7 g5.next g5n _ x2).rd (off:=0) (n:=2) (l:=[t2,e2]) (by simp) rfl
 have sv:sameV (.agg [t2,e2]) (.agg [t2,e2])=true:=by
  have k1:same1 t2 t2=true:=row_same1 G2.it.to.choose_spec.2.1
  have k2:same1 e2 e2=true:=row_same1 G2.it.en
  show bi (same1 t2 t2) (bi (same1 e2 e2) true false) false=true
  rw [k1,k2];rfl
 have nn:=(leh.trans l12).next
 have nm:=(leh.trans l14).next
 simp [x1,r10,r11,r11',z1,z2,z3,z4,sv]
 refine fun w=>H1 hb g8 t1 e1 t2 e2 w z5 ?_ ?_
 ·exact ((((Kx.mono l5).mono x3).up (by have:=l12.next;omega:g0.next<=g2.next)).kp fun j hj=>z6 j hj).up (by have:=leh.next;omega)
 ·exact (((G2.mono x3).up (by have:=l14.next;omega:g0.next<=g4.next)).kp fun j hj=>z6 j hj).up (by have:=leh.next;omega)
end Go.Ab.Z
namespace Go.Ab.Z
open Go Go.Ab
variable {h h':AHeap} {k:Post} {fe le en mo en' mo':AVal} {A:PAlpha} {X Y:PAuto}
def pL (p:K2):KL:=[p.1,p.2]
def nextQ (fit:Bool->Bool->Bool) (R R':List (List Int)) (l:KL) (c:Nat):Option KL:=match l with
 | [a,b]=>(nextP fit R R' (a,b) c).map pL
 | _=>none
def finQ (fit:Bool->Bool->Bool) (E E':List Bool) (l:KL):Bool:=match l with
 | [a,b]=>endP fit E E' (a,b)
 | _=>false
theorem pL_inj (a b:K2) (h:pL a=pL b):a=b:=by
 unfold pL at h
 injection h with h1 h2
 injection h2 with h2 _
 exact Prod.ext h1 h2
noncomputable def grQ (fit:Bool->Bool->Bool) (A:PAlpha) (X Y:PAuto):BS KL:=runU (nextQ fit (mR A X) (mR A Y)) A.letters.length 4098 0 (begU A.letters.length [0,0])
theorem grQ_eq (fit:Bool->Bool->Bool) (A:PAlpha) (X Y:PAuto):grQ fit A X Y=(pairR fit A X Y).map pL/\(grQ fit A X Y).w.map (finQ fit (mE A X) (mE A Y))=pairF fit A X Y:=by
 obtain ⟨r1,_⟩:=runU_map (next:=nextP fit (mR A X) (mR A Y)) (next':=nextQ fit (mR A X) (mR A Y)) (L:=A.letters.length) (f:=pL) (P:=fun _=>True) (fun a b _ _ h=>pL_inj a b h) (fun a k _=>rfl) (fun _ _ _ _ _=>trivial) 4098 0 (s:=begU A.letters.length (0,0)) (fun _ _=>trivial)
 have e0:(begU A.letters.length ((0,0):K2)).map pL=begU A.letters.length [0,0]:=rfl
 rw [e0] at r1
 refine ⟨r1,?_⟩
 have e1:(grQ fit A X Y).w=(pairR fit A X Y).w.map pL:=congrArg BS.w r1
 rw [e1,List.map_map]
 rfl
def isP (n m:Nat) (l:KL):Prop:=∃ p:K2,l=pL p/\InP n m p
theorem Ref.ev {b L:Nat} {s:BS KL} {E:List Bool} {lots:Bool} {own:List Nat} (M:Ref h b L s E lots own):∃ ev,h.read1 b 3=some ev/\sameV ev ev=true:=by
 obtain ⟨mp,mb,lv,tv,ev,rb,vs,_,M⟩:=M
 exact ⟨ev,M.box.rd1 (i:=3) (c:=ev) rfl,same_orow M.en⟩
def fitB (e:Bool):Bool->Bool->Bool:=if e then fOr else fAnd
set_option maxHeartbeats 4000000 in
theorem f47 {eb:Bool} (hA:IsAlpha h fe le A) (hX:IsAuto h en mo X) (hY:IsAuto h en' mo' Y)
  (H:∀ h' ze zm,WF h'->Hle h h'->IsAuto h' ze zm (pairX (fitB eb) A X Y).1->OwnAuto h h' ze zm (pairX (fitB eb) A X Y).1->k (.tup [aV (pairX (fitB eb) A X Y).1.states ze zm,.int .i64 (pairX (fitB eb) A X Y).2]) h') :
  Cf 47 [.agg [fe,le],aV X.states en mo,aV Y.states en' mo',.bool eb] h k:=by
 refine use_code compiled47 fun hw=>?_
 have w1:=hw.newCells [fe,le]
 have le1:=Hle.newCells hw [fe,le]
 have w2:=w1.newCells [.int .i64 X.states,en,mo]
 have le2:=Hle.newCells w1 [.int .i64 X.states,en,mo]
 have w3:=w2.newCells [.int .i64 Y.states,en',mo']
 have le3:=Hle.newCells w2 [.int .i64 Y.states,en',mo']
 have w4:=w3.newCells [.int .i64 0,.nils,.nils]
 have le4:=Hle.newCells w3 [.int .i64 0,.nils,.nils]
 have leh:=((le1.trans le2).trans le3).trans le4
 have va:=(((Blk.new h [fe,le]).mono le2).mono le3).mono le4
 have vx:=((Blk.new (h.newCells [fe,le]) [.int .i64 X.states,en,mo]).mono le3).mono le4
 have vy:=(Blk.new ((h.newCells [fe,le]).newCells [.int .i64 X.states,en,mo]) [.int .i64 Y.states,en',mo']).mono le4
 have vr:=Blk.new (((h.newCells [fe,le]).newCells [.int .i64 X.states,en,mo]).newCells [.int .i64 Y.states,en',mo']) [.int .i64 0,.nils,.nils]
 simp only [next_newCells] at vx vy vr
 have ra:=va.rd (off:=0) (n:=2) (l:=[fe,le]) (by simp) rfl
 have rx:=vx.rd (off:=0) (n:=3) (l:=[.int .i64 X.states,en,mo]) (by simp) rfl
 have ry:=vy.rd (off:=0) (n:=3) (l:=[.int .i64 Y.states,en',mo']) (by simp) rfl
 have alen:=hA.llen
 simp [fn47,aV,ra,rx,ry]
 generalize hg0:(((h.newCells [fe,le]).newCells [.int .i64 X.states,en,mo]).newCells [.int .i64 Y.states,en',mo']).newCells [.int .i64 0,.nils,.nils]=g0 at *
 have gn:g0.next=h.next+4:=by rw [<-hg0];simp
 have fin:∀ (g:AHeap) (Z:PAuto) (e:Int) (ze zm:AVal),(pairX (fitB eb) A X Y)=(Z,e)->WF g->Hle g0 g->IsAuto g ze zm Z->OwnAuto g0 g ze zm Z ->
   ∃ g',g.write (h.next+1+1+1) 0 [.int .i64 Z.states,ze,zm]=some g'/\g'.read (h.next+1+1+1) 0 3=some [.int .i64 Z.states,ze,zm]/\(WF g'->k (.tup [.agg [.int .i64 Z.states,ze,zm],.int .i64 e]) g'):=by
  intro g Z e ze zm he wg lg iz oz
  obtain ⟨g2,y1,y2,y3,iz2,oz2⟩:=oz.lay (n:=Z.states) iz w4 lg (vr.mono lg) (fun j hj=>by have:=oz.ge j hj;omega) (fun j hj=>by have:=(oz.go j hj).1;omega)
  refine ⟨g2,y1,y2,fun w=>?_⟩
  have H:=H g2 ze zm w (y3.hle (leh.trans lg) hw (by omega))
  rw [he] at H
  exact H iz2 (oz2.up leh.next)
 have lay:∀ (g:AHeap) (t e:AVal),WF g->oneA t=true->oneA e=true->∃ g',(g.newCells [.nils,.nils]).write g.next 0 [t,e]=some g'/\Blk g' g.next [t,e]/\Hle g g'/\WF g'/\g'.next=g.next+1:=by
  intro g t e wg o1 o2
  have wA:=wg.newCells [.nils,.nils]
  have lA:=Hle.newCells wg [.nils,.nils]
  obtain ⟨g',a1,a2,a3⟩:=(Blk.new g [.nils,.nils]).write (off:=0) (vs:=[t,e]) (by simp) (two_one o1 o2)
  exact ⟨g',a1,by simpa using a2,a3.hle lA wg (Nat.le_refl _),a3.wf wA (by simp),by rw [a3.next];simp⟩
 have lay2:∀ (g:AHeap) (t e t' e':AVal),WF g->oneA t=true->oneA e=true->oneA t'=true->oneA e'=true->∃ g1 g2,((g.newCells [.nils,.nils]).newCells [.nils,.nils]).write g.next 0 [t,e]=some g1/\g1.write (g.next+1) 0 [t',e']=some g2/\Blk g2 g.next [t,e]/\Blk g2 (g.next+1) [t',e']/\Hle g g2/\WF g2:=by
  intro g t e t' e' wg o1 o2 o3 o4
  have wA:=wg.newCells [.nils,.nils]
  have lA:=Hle.newCells wg [.nils,.nils]
  have wB:=wA.newCells [.nils,.nils]
  have lB:=Hle.newCells wA [.nils,.nils]
  obtain ⟨g1,a1,a2,a3⟩:=((Blk.new g [.nils,.nils]).mono lB).write (off:=0) (vs:=[t,e]) (by simp) (two_one o1 o2)
  have a2:Blk g1 g.next [t,e]:=by simpa using a2
  have b0:=Blk.new (g.newCells [.nils,.nils]) [.nils,.nils]
  simp only [next_newCells] at b0
  obtain ⟨g2,b1,b2,b3⟩:=(Blk.kp b0 (But.kp a3 (by omega))).write (off:=0) (vs:=[t',e']) (by simp) (two_one o3 o4)
  exact ⟨g1,g2,a1,b1,Blk.kp a2 (But.kp b3 (by omega)),by simpa using b2,b3.hle (a3.hle (lA.trans lB) wg (Nat.le_refl _)) wg (by omega),b3.wf (a3.wf wB (by simp;omega)) (by rw [a3.next];simp)⟩
 refine f53 (hA.mono leh) (hX.mono leh) (hY.mono leh) (fun hb g1 t1 e1 t2 e2 wg1 l1 G1 G2=>?_) (fun hb g1 t1 e1 t2 e2 wg1 l1 o1 o2 o3 o4=>?_)
 rotate_left
 ·obtain ⟨g2,g3,x1,x2,x3,x4,x5,x6⟩:=lay2 g1 t1 e1 t2 e2 wg1 o1 o2 o3 o4
  obtain ⟨g4,y1,y2,y3⟩:=fin g3 X0 (bothE A X Y) .nils .nils (by unfold pairX;rw [if_pos hb]) x6 (l1.trans x5) (X0_is _) (X0_own _ _)
  have y1:g3.write (h.next+1+1+1) 0 [.int .i64 0,.nils,.nils]=some g4:=y1
  have y2:g4.read (h.next+1+1+1) 0 3=some [.int .i64 0,.nils,.nils]:=y2
  have d:decide (bothE A X Y=0)=false:=decide_eq_false hb
  simp [x1,x2]
  simp only [d]
  simp [y1,y2]
  exact y3
 obtain ⟨ha,hx,hy,k1,k2⟩:=bothE_zero hb
 obtain ⟨o1,o2⟩:=graph_one G1.it
 obtain ⟨o3,o4⟩:=graph_one G2.it
 obtain ⟨g2,g3,x1,x2,x3,x4,x5,x6⟩:=lay2 g1 t1 e1 t2 e2 wg1 o1 o2 o3 o4
 have l13:=l1.trans x5
 have r13:=(va.mono l13).rd1 (i:=1) (c:=le) rfl
 have w5:=x6.newCells [.int .i64 0,.int .i64 0]
 have l5:=Hle.newCells x6 [.int .i64 0,.int .i64 0]
 have r5:=(va.mono (l13.trans l5)).rd1 (i:=1) (c:=le) rfl
 have z0:Row1 (g3.newCells [.int .i64 0,.int .i64 0]) (.slice g3.next 0 2 2 1) (([0,0]:List Int).map vI):=(ORow.fresh g3 (sz:=1) (n:=2) (cs:=[.int .i64 0,.int .i64 0]) rfl).row1
 have hL1:=ha.1.2.1
 have hL:=ha.1.2.2
 have p1:=mR_pos k1
 have p2:=mR_pos k2
 simp [x1,x2,listPut,r5,alen]
 refine f62 z0 (by simp) (fun x hx'=>by simp at hx';omega) (by simp) (by omega) fun h5 b own w6 l6 M5 ho5=>?_
 have lB:=l13.trans l5
 have vaB:=va.mono lB
 have vB1:=x3.mono l5
 have vB2:=x4.mono l5
 have GB1:=(G1.mono x5).mono l5
 have GB2:=(G2.mono x5).mono l5
 have gB:=lB.next
 have lw6:=w5
 generalize g3.newCells [.int .i64 0,.int .i64 0]=hB at *
 clear x1 x2 x3 x4 x5 x6 z0 r13 r5 l5 l13 lay lay2
 have hgr:=grQ_eq (fitB eb) A X Y
 have rw1:=mR_w A X
 have rw2:=mR_w A Y
 have el1:=mE_len A X
 have el2:=mE_len A Y
 have hpx:(pairX (fitB eb) A X Y)=if ¬ capOk (grQ (fitB eb) A X Y)=true then (X0,9) else (leastX (grQ (fitB eb) A X Y).R ((grQ (fitB eb) A X Y).w.map (finQ (fitB eb) (mE A X) (mE A Y))) A.sy,0):=by
  have e1:(grQ (fitB eb) A X Y).R=(pairR (fitB eb) A X Y).R:=by rw [hgr.1];rfl
  have e2:capOk (grQ (fitB eb) A X Y)=capOk (pairR (fitB eb) A X Y):=by rw [hgr.1];unfold capOk BS.map;simp
  unfold pairX
  rw [if_neg (by simp [hb]),e1,e2,hgr.2]
 have hgw:RunW A.letters.length (grQ (fitB eb) A X Y):=runU_w _ _ (begU_w _ _)
 have hgd:grQ (fitB eb) A X Y=runU (nextQ (fitB eb) (mR A X) (mR A Y)) A.letters.length 4098 0 (begU A.letters.length [0,0]):=rfl
 generalize grQ (fitB eb) A X Y=GR at *
 clear hgr
 generalize mR A X=R at *
 generalize mR A Y=R' at *
 generalize mE A X=E at *
 generalize mE A Y=E' at *
 generalize hfit:fitB eb=fit at *
 simp
 rw [L47_1]
 refine loop_by (σ:=Nat) (fun n h'=>∃ s own,WF h'/\Hle hB h'/\Ref h' b A.letters.length s (EofN (finQ fit E E') s.w n) (!capOk s) own/\(∀ j∈own,hB.next<=j)/\n<=s.w.length/\runU (nextQ fit R R') A.letters.length (4098 - n) n s=GR/\(∀ l∈s.w,isP R.length R'.length l)/\n<=4096+200)
  (fun n=>[(3,.bool eb),(4,.ptr h.next 0),(8,.ptr (h.next+1+1+1) 0),(10,.ptr g1.next 0),(11,.ptr (g1.next+1) 0),(13,.ptr b 0),(14,.int .i64 n)]) (fun n=>5000 - n) 0 (by simp) ?_ ?_
 ·refine ⟨begU A.letters.length [0,0],own,w6,l6,?_,ho5,Nat.zero_le _,hgd.symm,fun l hl=>?_,by omega⟩
  ·have e1:(!capOk (begU A.letters.length ([0,0]:KL)))=false:=by simp [capOk,begU]
   rw [e1]
   show Ref h5 b A.letters.length (begU A.letters.length [0,0]) (EofN (finQ fit E E') [[0,0]] 0) false own
   rw [EofN_zero]
   exact M5
  ·simp [begU] at hl
   rw [hl]
   exact ⟨(0,0),rfl,⟨by decide,by simp;omega⟩,⟨by decide,by simp;omega⟩⟩
 clear M5 w6 l6 ho5 own h5
 rintro n h6 K ⟨s,own,w6,l6,M,ho,hn,hrun,hin,hnb⟩ hK
 obtain ⟨lv,q1,q2⟩:=M.len
 have ql:=M.rdLots
 have fin2:s=GR->(capOk s=true->n=s.w.length)->∀ {KN KR:Kn} {KX:Kx} (T:PT AVal),Has T [(4,.ptr h.next 0),(8,.ptr (h.next+1+1+1) 0),(13,.ptr b 0)] ->
   (∀ (T':PT AVal) (g':AHeap) (e z:Int) (ze zm:AVal),Has T' [(8,.ptr (h.next+1+1+1) 0),(9,.int .i64 e)]->g'.read (h.next+1+1+1) 0 3=some [.int .i64 z,ze,zm]->(WF g'->k (.tup [.agg [.int .i64 z,ze,zm],.int .i64 e]) g')->KR T' g')->run lpI c47_37 (cfP PP []) KN KX KR T h6:=by
  intro hs hn2 KN KR KX T hT hKR
  obtain ⟨t4,t8,t13,_⟩:=hT
  simp at t4 t8 t13
  cases hco:capOk s with
  | false =>
   obtain ⟨g4,y1,y2,y3⟩:=fin h6 X0 9 .nils .nils (by rw [hpx,<-hs,if_pos (by rw [hco];simp)]) w6 (lB.trans l6) (X0_is _) (X0_own _ _)
   have y1:h6.write (h.next+1+1+1) 0 [.int .i64 0,.nils,.nils]=some g4:=y1
   have y2:g4.read (h.next+1+1+1) 0 3=some [.int .i64 0,.nils,.nils]:=y2
   rw [hco] at ql
   simp [PT.get_put,t4,t8,t13,nilCheckA,ql,y1]
   exact hKR _ g4 9 0 .nils .nils (by simp [PT.get_put,t8]) y2 y3
  | true =>
   have hnl:=hn2 hco
   obtain ⟨tv,ev,z1,z2,_,_⟩:=M.graphK
   have zg:=z2 h6 fun j _=>Kp.refl _ _
   rw [hnl,EofN_all] at zg
   have raB:=(vaB.mono l6).rd (off:=0) (n:=2) (l:=[fe,le]) (by simp) rfl
   have hRl:s.R.length=s.w.length:=by rw [hs];exact hgw.len
   have hcap:=hco
   unfold capOk at hcap
   simp only [Bool.and_eq_true,decide_eq_true_eq] at hcap
   have hpos:0 < s.w.length:=by
    obtain ⟨_,_,_,_,_,_,_,_,MR⟩:=M
    rw [hs]
    have:0 < GR.w.length:=by
     have e:GR=runU (nextQ fit R R') A.letters.length 4098 0 (begU A.letters.length [0,0]):=hgd
     rw [e];exact runU_pos _ _ (by simp [begU])
    exact this
   rw [hco] at ql
   simp only [Bool.not_true] at ql
   simp [PT.get_put,t4,t8,t13,nilCheckA,ql,z1,raB]
   refine f68 zg (by simp [hRl]) (hA.mono (leh.trans (lB.trans l6))) (fun e=>by rw [e] at hRl;simp at hRl;omega) (fun r hr t ht=>by
    rw [hRl]
    have:=(hgw.rows.bd r (by rw [<-hs];exact hr) t ht).2
    rw [hs];exact this) (fun r hr=>hgw.rows.len r (by rw [<-hs];exact hr)) (by omega) hL fun g4 ze zm wg4 l5 iz oz=>?_
   obtain ⟨g5,y1,y2,y3⟩:=fin g4 (leastX s.R (s.w.map (finQ fit E E')) A.sy) 0 ze zm (by rw [hpx,<-hs,if_neg (by rw [hco];simp)]) wg4 (lB.trans (l6.trans l5)) iz (oz.up (lB.trans l6).next)
   simp [PT.get_put,t8,aV,y1]
   exact hKR _ g5 0 _ ze zm (by simp [PT.get_put,t8]) y2 y3
 simp [nilCheckA,q1,q2]
 by_cases hd:n < s.w.length
 rotate_left
 ·have hnl:n=s.w.length:=by omega
  have hs:s=GR:=by rw [<-hrun,hnl];exact runU_done.symm
  have dn:decide (n < s.w.length)=false:=decide_eq_false hd
  simp only [dn]
  simp [-x47_37]
  refine fin2 hs (fun _=>hnl) _ (by simp) fun T' g' e z ze zm hT' rd hk=>?_
  obtain ⟨t8,t9,_⟩:=hT'
  simp at t8 t9
  simp [t8,t9,rd]
  exact hk
 have dn:decide (n < s.w.length)=true:=decide_eq_true hd
 simp only [dn]
 simp [nilCheckA,ql,-x47_37]
 cases hco:capOk s with
 | false =>
  have hs:s=GR:=by rw [<-hrun];exact (runU_stop (by rw [hco];simp) _ _).symm
  simp [-x47_37]
  refine fin2 hs (fun h=>by rw [hco] at h;cases h) _ (by simp) fun T' g' e z ze zm hT' rd hk=>?_
  obtain ⟨t8,t9,_⟩:=hT'
  simp at t8 t9
  simp [t8,t9,rd]
  exact hk
 | true =>
 clear fin2
 have hcap:=hco
 unfold capOk at hcap
 simp only [Bool.and_eq_true,decide_eq_true_eq] at hcap
 rw [hco] at M ql
 simp only [Bool.not_true] at M ql
 have hrun':runU (nextQ fit R R') A.letters.length (4098 - (n+1)) (n+1) (rowU (nextQ fit R R') A.letters.length n (List.range A.letters.length) s)=GR:=by
  rw [<-hrun,show 4098 - n=(4098 - (n+1))+1 by omega]
  conv=>rhs;unfold runU
  rw [if_pos ⟨hd,hco⟩]
 obtain ⟨lv,v,q1,q2,q3,q4,q5⟩:=M.at hd
 obtain ⟨ev,qe,se⟩:=M.ev
 obtain ⟨p,hp,hpi⟩:=hin s.w[n] (List.getElem_mem hd)
 have i0:indexAddrS 1 v (.int .i64 0)=some (.ptr (rowB v) (rowO v)):=q4.idx (i:=0) (by rw [hp];simp [pL]) .i64
 have i1:indexAddrS 1 v (.int .i64 1)=some (.ptr (rowB v) (rowO v+1)):=q4.idx (i:=1) (by rw [hp];simp [pL]) .i64
 have v0:∀ g,Hle h6 g->g.read1 (rowB v) (rowO v)=some (.int .i64 p.1):=fun g l=>(q4.mono l).rd (i:=0) (c:=.int .i64 p.1) (by rw [hp];rfl)
 have v1:∀ g,Hle h6 g->g.read1 (rowB v) (rowO v+1)=some (.int .i64 p.2):=fun g l=>(q4.mono l).rd (i:=1) (c:=.int .i64 p.2) (by rw [hp];rfl)
 have b1:∀ g,Hle h6 g->g.read g1.next 0 2=some [t1,e1]:=fun g l=>(vB1.mono (l6.trans l)).rd (off:=0) (n:=2) (by simp) rfl
 have b2:∀ g,Hle h6 g->g.read (g1.next+1) 0 2=some [t2,e2]:=fun g l=>(vB2.mono (l6.trans l)).rd (off:=0) (n:=2) (by simp) rfl
 have be:∀ g,Hle h6 g->g.read1 b 3=some ev:=fun g l=>by
  have:=(M.mono l).ev
  obtain ⟨mp,mb,lv,tv,ev',rb,vs,_,MR⟩:=M
  have e1:=MR.box.rd1 (i:=3) (c:=ev') rfl
  rw [qe] at e1
  cases e1
  exact (MR.box.mono l).rd1 (i:=3) (c:=ev) rfl
 have fe1:∀ g,Hle h6 g->IsGraph g t1 e1 R E:=fun g l=>((GB1.mono (l6.trans l))).it
 have fe2:∀ g,Hle h6 g->IsGraph g t2 e2 R' E':=fun g l=>((GB2.mono (l6.trans l))).it
 have hp1:p.1 < (E.length:Int):=by rw [el1];exact hpi.1.2
 have hp2:p.2 < (E'.length:Int):=by rw [el2];exact hpi.2.2
 have wrt:∀ (g:AHeap) (bb:Bool),WF g->Hle h6 g->bb=fit (endG E p.1) (endG E' p.2)->∃ g',indexAddrS 1 ev (.int .i64 (n:Int))=some (.ptr (rowB ev) n)/\g.write (rowB ev) n [.bool bb]=some g'/\WF g'/\Hle hB g'/\Ref g' b A.letters.length s (EofN (finQ fit E E') s.w (n+1)) false own/\Row1 g' v ((pL p).map vI):=by
  intro g bb wg lg hbb
  obtain ⟨ev',g',y1,y2,y3,y4,w7,n7,x7,M7⟩:=(M.mono lg).setEnd wg hd bb
  rw [be g lg] at y1
  cases y1
  have e:bb=finQ fit E E' s.w[n]:=by rw [hbb,hp];rfl
  rw [e,EofN_set hd] at M7
  refine ⟨g',y2,y4,w7,x7.hle' (l6.trans lg) lw6 ho,M7,?_⟩
  rw [<-hp]
  exact row_kp (q4.mono lg) fun j hj=>x7.get j (q5 j hj)
 have wrn:wrapF .i64 ((n:Int)+1)=(n:Int)+1:=wrap64 (by omega) (by omega)
 have aft:∀ {KX:Kx} {KR:Kn} (T:PT AVal) (g:AHeap) (own':List Nat),WF g->Hle hB g->Ref g b A.letters.length (rowU (nextQ fit R R') A.letters.length n (List.range A.letters.length) s) (EofN (finQ fit E E') (rowU (nextQ fit R R') A.letters.length n (List.range A.letters.length) s).w (n+1)) (!capOk (rowU (nextQ fit R R') A.letters.length n (List.range A.letters.length) s)) own' ->
   (∀ j∈own',hB.next<=j)->(∀ l∈(rowU (nextQ fit R R') A.letters.length n (List.range A.letters.length) s).w,isP R.length R'.length l)->Has T [(3,.bool eb),(4,.ptr h.next 0),(8,.ptr (h.next+1+1+1) 0),(10,.ptr g1.next 0),(11,.ptr (g1.next+1) 0),(13,.ptr b 0),(14,.int .i64 n)]->run lpI c47_28 (cfP PP []) K KX KR T g:=by
  intro KX KR T g own' wg lg Mg hog hig hT
  obtain ⟨t3,t4,t8,t10,t11,t13,t14,_⟩:=hT
  simp at t3 t4 t8 t10 t11 t13 t14
  have rm:=(rowU_mono (next:=nextQ fit R R') (L:=A.letters.length) n (List.range A.letters.length) s).2
  simp [PT.get_put,t14,wrn]
  exact hK (n+1) _ _ (by omega) (by simp [PT.get_put,t3,t4,t8,t10,t11,t13]) ⟨_,own',wg,lg,Mg,hog,by omega,hrun',hig,by omega⟩
 have mid:∀ {KN KR:Kn} {KX:Kx} (T:PT AVal) (g:AHeap),WF g->Hle hB g->Ref g b A.letters.length s (EofN (finQ fit E E') s.w (n+1)) false own->Row1 g v ((pL p).map vI)->Has T [(3,.bool eb),(4,.ptr h.next 0),(8,.ptr (h.next+1+1+1) 0),(10,.ptr g1.next 0),(11,.ptr (g1.next+1) 0),(13,.ptr b 0),(14,.int .i64 n),(15,v)] ->
   (∀ (T:PT AVal) (g:AHeap) (own':List Nat),WF g->Hle hB g->Ref g b A.letters.length (rowU (nextQ fit R R') A.letters.length n (List.range A.letters.length) s) (EofN (finQ fit E E') (rowU (nextQ fit R R') A.letters.length n (List.range A.letters.length) s).w (n+1)) (!capOk (rowU (nextQ fit R R') A.letters.length n (List.range A.letters.length) s)) own' ->
   (∀ j∈own',hB.next<=j)->(∀ l∈(rowU (nextQ fit R R') A.letters.length n (List.range A.letters.length) s).w,isP R.length R'.length l)->Has T [(3,.bool eb),(4,.ptr h.next 0),(8,.ptr (h.next+1+1+1) 0),(10,.ptr g1.next 0),(11,.ptr (g1.next+1) 0),(13,.ptr b 0),(14,.int .i64 n)]->KN T g)->run lpI c47_12 (cfP PP []) KN KX KR T g:=by
  intro KN KR KX T g wg lg Mg rv hT hKN
  obtain ⟨t3,t4,t8,t10,t11,t13,t14,t15,_⟩:=hT
  simp at t3 t4 t8 t10 t11 t13 t14 t15
  simp
  rw [L47_2]
  refine loop_by (σ:=Nat) (fun c h'=>∃ s' own',s'=rowU (nextQ fit R R') A.letters.length n (List.range c) s/\WF h'/\Hle hB h'/\Ref h' b A.letters.length s' (EofN (finQ fit E E') s'.w (n+1)) (!capOk s') own'/\(∀ j∈own',hB.next<=j)/\c<=A.letters.length/\s'.st<=s.st+c/\s'.w.length<=s.w.length+c/\(∀ l∈s'.w,isP R.length R'.length l)/\Row1 h' v ((pL p).map vI)/\∀ j∈blkOf v,j∉own')
   (fun c=>[(3,.bool eb),(4,.ptr h.next 0),(8,.ptr (h.next+1+1+1) 0),(10,.ptr g1.next 0),(11,.ptr (g1.next+1) 0),(13,.ptr b 0),(14,.int .i64 n),(15,v),(16,.int .i64 c)]) (fun c=>A.letters.length - c) 0 (by simp [PT.get_put,t3,t4,t8,t10,t11,t13,t14,t15]) ?_ ?_
  ·exact ⟨s,own,rfl,wg,lg,by rw [hco];exact Mg,ho,Nat.zero_le _,by omega,by omega,hin,rv,q5⟩
  clear Mg wg lg rv t3 t4 t8 t10 t11 t13 t14 t15 g
  rintro c h6 K2 ⟨s',own',hs',w6,l6,M,ho,hcl,hst',hwl',hin',rv,hvo⟩ hK2
  have ra6:=(vaB.mono l6).rd1 (i:=1) (c:=le) rfl
  simp [ra6,alen]
  refine ap_split (fun hq=>?_) (fun hq=>?_)
  rotate_left
  ·have:c=A.letters.length:=by omega
   subst this
   rw [hs'] at M hin'
   simp
   exact hKN _ h6 own' w6 l6 M ho hin' (by simp)
  have hq:c < A.letters.length:=by omega
  have rmw:=(rowU_mono (next:=nextQ fit R R') (L:=A.letters.length) n (List.range c) s).2
  have hnw:n < s'.w.length:=by rw [hs'];omega
  have hgw2:s'.w[n]=pL p:=by
   have key:∀ (ks:List Nat) (s:BS KL) (hn:n < s.w.length),(rowU (nextQ fit R R') A.letters.length n ks s).w[n]?=some s.w[n]:=by
    intro ks
    induction ks with
    | nil=>intro s hn;exact List.getElem?_eq_getElem hn
    | cons k ks ih =>
     intro s hn
     rw [rowU_cons]
     have h1:=(stepU_mono (next:=nextQ fit R R') (L:=A.letters.length) n s k).2
     rw [ih (stepU (nextQ fit R R') A.letters.length n s k) (by omega)]
     have:(stepU (nextQ fit R R') A.letters.length n s k).w[n]?=some s.w[n]:=by
      unfold stepU
      split
      ·exact List.getElem?_eq_getElem hn
      ·split
       ·exact List.getElem?_eq_getElem hn
       ·rename_i t _
        by_cases ht:t∈s.w
        ·rw [addU_old _ ht];exact List.getElem?_eq_getElem hn
        ·rw [addU_new _ ht];simp only;rw [List.getElem?_append_left hn];exact List.getElem?_eq_getElem hn
     rw [List.getElem?_eq_getElem (by omega)] at this
     exact this
   have:=key (List.range c) s hd
   rw [<-hs',List.getElem?_eq_getElem hnw] at this
   rw [Option.some.inj this];exact hp
  have hsn:rowU (nextQ fit R R') A.letters.length n (List.range (c+1)) s=stepU (nextQ fit R R') A.letters.length n s' c:=by rw [List.range_succ,rowU_snoc,<-hs']
  have hnx:nextQ fit R R' (pL p) c=if fit (decide (0<=(stepP R R' p c).1)) (decide (0<=(stepP R R' p c).2))=true then some (pL (stepP R R' p c)) else none:=by
   show (nextP fit R R' (p.1,p.2) c).map pL=_
   unfold nextP
   split<;>rfl
  have hstep:stepU (nextQ fit R R') A.letters.length n s' c=if fit (decide (0<=(stepP R R' p c).1)) (decide (0<=(stepP R R' p c).2))=true then addU A.letters.length n c (pL (stepP R R' p c)) s' else s':=by
   unfold stepU
   rw [List.getElem?_eq_getElem hnw,hgw2]
   simp only
   rw [hnx]
   by_cases hz:fit (decide (0<=(stepP R R' p c).1)) (decide (0<=(stepP R R' p c).2))=true
   ·rw [if_pos hz,if_pos hz]
   ·rw [if_neg hz,if_neg hz]
  have wrc:wrapF .i64 ((c:Int)+1)=(c:Int)+1:=wrap64 (by omega) (by omega)
  have i0:indexAddrS 1 v (.int .i64 0)=some (.ptr (rowB v) (rowO v)):=rv.idx (i:=0) (by simp [pL]) .i64
  have i1:indexAddrS 1 v (.int .i64 1)=some (.ptr (rowB v) (rowO v+1)):=rv.idx (i:=1) (by simp [pL]) .i64
  have v0:∀ g,Hle h6 g->g.read1 (rowB v) (rowO v)=some (.int .i64 p.1):=fun g l=>(rv.mono l).rd (i:=0) (c:=.int .i64 p.1) rfl
  have v1:∀ g,Hle h6 g->g.read1 (rowB v) (rowO v+1)=some (.int .i64 p.2):=fun g l=>(rv.mono l).rd (i:=1) (c:=.int .i64 p.2) rfl
  have b1:∀ g,Hle h6 g->g.read g1.next 0 2=some [t1,e1]:=fun g l=>(vB1.mono (l6.trans l)).rd (off:=0) (n:=2) (by simp) rfl
  have b2:∀ g,Hle h6 g->g.read (g1.next+1) 0 2=some [t2,e2]:=fun g l=>(vB2.mono (l6.trans l)).rd (off:=0) (n:=2) (by simp) rfl
  have fe1:∀ g,Hle h6 g->IsRows g t1 R:=fun g l=>((GB1.mono (l6.trans l))).it.to
  have fe2:∀ g,Hle h6 g->IsRows g t2 R':=fun g l=>((GB2.mono (l6.trans l))).it.to
  have sv2:sameV (.agg [t2,e2]) (.agg [t2,e2])=true:=by
   show bi (same1 t2 t2) (bi (same1 e2 e2) true false) false=true
   rw [row_same1 (GB2.it).to.choose_spec.2.1,row_same1 (GB2.it).en];rfl
  have sle:=same_row hA.le
  simp [b1 _ (Hle.refl _),i0,v0 _ (Hle.refl _),b2 _ (Hle.refl _),i1,v1 _ (Hle.refl _)]
  refine f55 (fe1 _ (Hle.refl _)) hpi.1.2 (fun r hr=>by rw [rw1.len r hr];exact hq) fun h7 w7 l7=>?_
  simp [v1 _ l7,b2 _ l7,sv2]
  refine f55 (fe2 _ l7) hpi.2.2 (fun r hr=>by rw [rw2.len r hr];exact hq) fun h8 w8 l8=>?_
  have hqi:=stepP_in rw1 rw2 p c
  generalize hqq:stepP R R' p c=q at *
  have hq1:stepG R p.1 c=q.1:=by rw [<-hqq];rfl
  have hq2:stepG R' p.2 c=q.2:=by rw [<-hqq];rfl
  rw [hq1,hq2]
  have w9:=w8.newCells [.int .i64 q.1,.int .i64 q.2]
  have l9:=Hle.newCells w8 [.int .i64 q.1,.int .i64 q.2]
  have l69:=(l7.trans l8).trans l9
  have rq:Row1 (h8.newCells [.int .i64 q.1,.int .i64 q.2]) (.slice h8.next 0 2 2 1) ((pL q).map vI):=(ORow.fresh h8 (sz:=1) (n:=2) (cs:=[.int .i64 q.1,.int .i64 q.2]) rfl).row1
  have j0:indexAddrS 1 (.slice h8.next 0 2 2 1) (.int .i64 0)=some (.ptr h8.next 0):=rfl
  have j1:indexAddrS 1 (.slice h8.next 0 2 2 1) (.int .i64 1)=some (.ptr h8.next 1):=rfl
  have u0:(h8.newCells [.int .i64 q.1,.int .i64 q.2]).read1 h8.next 0=some (.int .i64 q.1):=(Blk.new h8 [.int .i64 q.1,.int .i64 q.2]).rd1 (i:=0) rfl
  have u1:(h8.newCells [.int .i64 q.1,.int .i64 q.2]).read1 h8.next 1=some (.int .i64 q.2):=(Blk.new h8 [.int .i64 q.1,.int .i64 q.2]).rd1 (i:=1) rfl
  have ra9:=(vaB.mono (l6.trans l69)).rd1 (i:=1) (c:=le) rfl
  have M9:=M.mono l69
  have nx9:=l69.next
  have skip:fit (decide (0<=q.1)) (decide (0<=q.2))=false->∀ T,Has T [(3,.bool eb),(4,.ptr h.next 0),(8,.ptr (h.next+1+1+1) 0),(10,.ptr g1.next 0),(11,.ptr (g1.next+1) 0),(13,.ptr b 0),(14,.int .i64 n),(15,v),(16,.int .i64 ((c:Int)+1))]->K2 T (h8.newCells [.int .i64 q.1,.int .i64 q.2]):=by
   intro hz T hT
   rw [if_neg (by rw [hz];simp)] at hstep
   exact hK2 (c+1) T _ (by omega) hT ⟨s',own',by rw [hsn];exact hstep.symm,w9,l6.trans l69,M9,ho,by omega,by omega,by omega,hin',rv.mono l69,hvo⟩
  have puts:fit (decide (0<=q.1)) (decide (0<=q.2))=true->∀ {k':Post},(∀ h10 tv c' h11,h10.read1 b 2=some tv->indexAddrS 1 tv (.int .i64 (n:Int))=some (.ptr (rowB tv) n)->h10.read1 (rowB tv) n=some (.slice c' 0 A.letters.length A.letters.length 1)->indexAddrS 1 (.slice c' 0 A.letters.length A.letters.length 1) (.int .i64 (c:Int))=some (.ptr c' c)->h10.write c' c [.int .i64 (idxK (putU A.letters.length (pL q) s').w (pL q):Int)]=some h11 ->
    (∀ T,Has T [(3,.bool eb),(4,.ptr h.next 0),(8,.ptr (h.next+1+1+1) 0),(10,.ptr g1.next 0),(11,.ptr (g1.next+1) 0),(13,.ptr b 0),(14,.int .i64 n),(15,v),(16,.int .i64 ((c:Int)+1))]->K2 T h11)->k' (.int .i64 (idxK (putU A.letters.length (pL q) s').w (pL q):Int)) h10) ->
    Cf 66 [.ptr b 0,.slice h8.next 0 2 2 1,.int .i64 (A.letters.length:Int)] (h8.newCells [.int .i64 q.1,.int .i64 q.2]) k':=by
   intro hz k' hk'
   rw [if_pos hz] at hstep
   refine f66 M9 rq (fun j hj e=>by simp [blkOf] at hj;have:=M.lt w6 j e;have:=(l7.trans l8).next;omega) (fun x hx'=>by
    obtain ⟨⟨a1,a2⟩,a3,a4⟩:=hqi
    simp [pL] at hx'
    omega) (by simp [pL]) (by omega) (by omega) (by omega) (fun e=>by simp [pL] at e) fun hz h10 own'' w10 M10 ho10 hx10=>?_
   have pm:s'.w.length<=(putU A.letters.length (pL q) s').w.length/\(putU A.letters.length (pL q) s').w.length<=s'.w.length+1:=by unfold putU;split<;>simp
   obtain ⟨tv,c',h11,y1,y2,y3,y4,y5,w11,n11,x11,M11⟩:=M10.setTo w10 (n:=n) (c:=c) (by omega) hq (idxK (putU A.letters.length (pL q) s').w (pL q):Int)
   have ad:=addU_put A.letters.length n c (pL q) s'
   rw [<-ad] at M11
   have l10:=hx10.hle' (l6.trans l69) lw6 ho
   have ho':∀ j∈own'',hB.next<=j:=fun j hj=>by
    rcases ho10 j hj with h1 | h1
    ·exact ho j h1
    ·have:=(l6.trans l69).next;omega
   simp only [rowS] at y3 y4
   refine hk' h10 tv c' h11 y1 y2 y3 y4 y5 fun T hT=>?_
   have eE:putE2 (pL q) s'.w (EofN (finQ fit E E') s'.w (n+1))=EofN (finQ fit E E') (addU A.letters.length n c (pL q) s').w (n+1):=by
    rw [ad]
    unfold putE2 putU
    by_cases hm:pL q∈s'.w
    ·rw [if_pos hm,if_pos hm]
    ·rw [if_neg hm,if_neg hm];exact (EofN_snoc (by omega) (pL q)).symm
   have hst2:=putU_st A.letters.length (pL q) s'
   have eL:(!capOk s' || !capOk (putU A.letters.length (pL q) s'))=!capOk (addU A.letters.length n c (pL q) s'):=by
    have e1:capOk (addU A.letters.length n c (pL q) s')=capOk (putU A.letters.length (pL q) s'):=by rw [ad];rfl
    rw [e1]
    cases h1:capOk s' with
    | true=>simp
    | false =>
     have:capOk (putU A.letters.length (pL q) s')=false:=by
      unfold capOk at h1 ⊢
      simp only [Bool.and_eq_false_iff,decide_eq_false_iff_not] at h1 ⊢
      omega
     rw [this];rfl
   rw [eE,eL] at M11
   have aw:(addU A.letters.length n c (pL q) s').st=s'.st+1/\(addU A.letters.length n c (pL q) s').w=(putU A.letters.length (pL q) s').w:=by rw [ad];exact ⟨hst2,rfl⟩
   have vlt:=row_lt rv w6
   have hvo'':∀ j∈blkOf v,j∉own'':=fun j hj e=>by
    rcases ho10 j e with h1 | h1
    ·exact hvo j hj h1
    ·have:=vlt j hj;omega
   refine hK2 (c+1) T _ (by omega) hT ⟨addU A.letters.length n c (pL q) s',own'',by rw [hsn];exact hstep.symm,w11,x11.hle' l10 lw6 ho',M11,ho',by omega,by omega,by rw [aw.2];omega,fun l hl=>?_,?_,hvo''⟩
   ·rw [aw.2] at hl
    unfold putU at hl
    split at hl
    ·exact hin' l hl
    ·rcases List.mem_append.1 hl with h1 | h1
     ·exact hin' l h1
     ·simp at h1;rw [h1];exact ⟨q,rfl,hqi⟩
   ·exact row_kp (row_kp (rv.mono l69) fun j hj=>hx10.get j (hvo j hj)) fun j hj=>x11.get j (hvo'' j hj)
  clear hK2
  simp [listPut,v1 _ (l7.trans l8),b2 _ (l7.trans l8),sv2,j0,u0]
  by_cases n1:q.1 < 0
  ·have d1:decide (q.1 < 0)=true:=decide_eq_true n1
   have dd1:decide (0<=q.1)=false:=decide_eq_false (by omega)
   by_cases n2:q.2 < 0
   ·have d2:decide (q.2 < 0)=true:=decide_eq_true n2
    have dd2:decide (0<=q.2)=false:=decide_eq_false (by omega)
    have sk:=skip (by rw [dd1,dd2,<-hfit];cases eb<;>rfl)
    simp only [d1]
    simp [j1,u1]
    simp only [d2]
    simp [wrc]
    exact sk _ (by simp)
   ·have d2:decide (q.2 < 0)=false:=decide_eq_false n2
    have dd2:decide (0<=q.2)=true:=decide_eq_true (by omega)
    simp only [d1]
    simp [j1,u1]
    simp only [d2]
    cases eb with
    | false =>
     have sk:=skip (by rw [dd1,dd2,<-hfit];rfl)
     simp [j0,u0]
     simp only [d1]
     simp [wrc]
     exact sk _ (by simp)
    | true =>
     simp [ra9,alen]
     refine puts (by rw [dd1,dd2,<-hfit];rfl) fun h10 tv c' h11 y1 y2 y3 y4 y5 hk=>?_
     simp [nilCheckA,y1,y2,y3,y4,y5,wrc]
     exact hk _ (by simp)
  ·have d1:decide (q.1 < 0)=false:=decide_eq_false n1
   have dd1:decide (0<=q.1)=true:=decide_eq_true (by omega)
   simp only [d1]
   cases eb with
   | true =>
    simp [ra9,alen]
    refine puts (by rw [dd1,<-hfit];rfl) fun h10 tv c' h11 y1 y2 y3 y4 y5 hk=>?_
    simp [nilCheckA,y1,y2,y3,y4,y5,wrc]
    exact hk _ (by simp)
   | false =>
    simp [j0,u0]
    simp only [d1]
    simp [j1,u1]
    by_cases n2:q.2 < 0
    ·have d2:decide (q.2 < 0)=true:=decide_eq_true n2
     have dd2:decide (0<=q.2)=false:=decide_eq_false (by omega)
     have sk:=skip (by rw [dd1,dd2,<-hfit];rfl)
     simp only [d2]
     simp [wrc]
     exact sk _ (by simp)
    ·have d2:decide (q.2 < 0)=false:=decide_eq_false n2
     have dd2:decide (0<=q.2)=true:=decide_eq_true (by omega)
     simp only [d2]
     simp [ra9,alen]
     refine puts (by rw [dd1,dd2,<-hfit];rfl) fun h10 tv c' h11 y1 y2 y3 y4 y5 hk=>?_
     simp [nilCheckA,y1,y2,y3,y4,y5,wrc]
     exact hk _ (by simp)
 have r0:=Hle.refl h6
 simp [nilCheckA,q1,q2,q3,be _ r0,b1 _ r0,i0,v0 _ r0,-x47_12]
 refine f54 (fe1 _ r0) hp1 fun ga wa la=>?_
 cases ha:endG E p.1 with
 | false =>
  cases eb with
  | false =>
   obtain ⟨g',z1,z2,wz,lz,Mz,rz⟩:=wrt ga false wa la (by rw [ha,<-hfit];rfl)
   simp [be _ la,se,z1,z2,-x47_12]
   exact mid _ g' wz lz Mz rz (by simp) fun T g own' h1 h2 h3 h4 h5 hT=>aft T g own' h1 h2 h3 h4 h5 hT
  | true =>
   simp [be _ la,se,b1 _ la,i0,v0 _ la,-x47_12]
   refine f54 (fe1 _ la) hp1 fun gb wb lb=>?_
   have lb:=la.trans lb
   rw [ha]
   simp [be _ lb,se,b2 _ lb,i1,v1 _ lb,-x47_12]
   refine f54 (fe2 _ lb) hp2 fun gc wc lc=>?_
   have lc:=lb.trans lc
   obtain ⟨g',z1,z2,wz,lz,Mz,rz⟩:=wrt gc (endG E' p.2) wc lc (by rw [ha,<-hfit];rfl)
   simp [be _ lc,se,z1,z2,-x47_12]
   exact mid _ g' wz lz Mz rz (by simp) fun T g own' h1 h2 h3 h4 h5 hT=>aft T g own' h1 h2 h3 h4 h5 hT
 | true =>
  simp [be _ la,se,b2 _ la,i1,v1 _ la,-x47_12]
  refine f54 (fe2 _ la) hp2 fun gb wb lb=>?_
  have lb:=la.trans lb
  cases eb with
  | false =>
   obtain ⟨g',z1,z2,wz,lz,Mz,rz⟩:=wrt gb (endG E' p.2) wb lb (by rw [ha,<-hfit];rfl)
   cases hb2:endG E' p.2 with
   | true =>
    rw [hb2] at z2
    simp [be _ lb,se,z1,z2,-x47_12]
    exact mid _ g' wz lz Mz rz (by simp) fun T g own' h1 h2 h3 h4 h5 hT=>aft T g own' h1 h2 h3 h4 h5 hT
   | false =>
    rw [hb2] at z2
    simp [be _ lb,se,z1,z2,-x47_12]
    exact mid _ g' wz lz Mz rz (by simp) fun T g own' h1 h2 h3 h4 h5 hT=>aft T g own' h1 h2 h3 h4 h5 hT
  | true =>
   cases hb2:endG E' p.2 with
   | true =>
    obtain ⟨g',z1,z2,wz,lz,Mz,rz⟩:=wrt gb true wb lb (by rw [ha,<-hfit];rfl)
    simp [be _ lb,se,z1,z2,-x47_12]
    exact mid _ g' wz lz Mz rz (by simp) fun T g own' h1 h2 h3 h4 h5 hT=>aft T g own' h1 h2 h3 h4 h5 hT
   | false =>
    simp [be _ lb,se,b1 _ lb,i0,v0 _ lb,-x47_12]
    refine f54 (fe1 _ lb) hp1 fun gc wc lc=>?_
    have lc:=lb.trans lc
    rw [ha]
    obtain ⟨g',z1,z2,wz,lz,Mz,rz⟩:=wrt gc true wc lc (by rw [ha,<-hfit];rfl)
    simp [be _ lc,se,z1,z2,-x47_12]
    exact mid _ g' wz lz Mz rz (by simp) fun T g own' h1 h2 h3 h4 h5 hT=>aft T g own' h1 h2 h3 h4 h5 hT
end Go.Ab.Z
namespace Go.Ab.Z
open Go Go.Ab
variable {h h':AHeap} {k:Post} {fe le en mo en' mo':AVal} {A:PAlpha} {X Y:PAuto}
theorem f13 (hA:IsAlpha h fe le A) (hX:IsAuto h en mo X) (hY:IsAuto h en' mo' Y)
  (H:∀ h' ze zm,WF h'->Hle h h'->IsAuto h' ze zm (pairX fAnd A X Y).1->OwnAuto h h' ze zm (pairX fAnd A X Y).1->k (.tup [aV (pairX fAnd A X Y).1.states ze zm,.int .i64 (pairX fAnd A X Y).2]) h') :
  Cf 13 [.agg [fe,le],aV X.states en mo,aV Y.states en' mo'] h k:=by
 refine use_code compiled13 fun hw=>?_
 have w1:=hw.newCells [fe,le]
 have le1:=Hle.newCells hw [fe,le]
 have w2:=w1.newCells [.int .i64 X.states,en,mo]
 have le2:=Hle.newCells w1 [.int .i64 X.states,en,mo]
 have w3:=w2.newCells [.int .i64 Y.states,en',mo']
 have le3:=Hle.newCells w2 [.int .i64 Y.states,en',mo']
 have w4:=w3.newCells [.int .i64 0,.nils,.nils]
 have le4:=Hle.newCells w3 [.int .i64 0,.nils,.nils]
 have leh:=((le1.trans le2).trans le3).trans le4
 have va:=(((Blk.new h [fe,le]).mono le2).mono le3).mono le4
 have vx:=((Blk.new (h.newCells [fe,le]) [.int .i64 X.states,en,mo]).mono le3).mono le4
 have vy:=(Blk.new ((h.newCells [fe,le]).newCells [.int .i64 X.states,en,mo]) [.int .i64 Y.states,en',mo']).mono le4
 have vr:=Blk.new (((h.newCells [fe,le]).newCells [.int .i64 X.states,en,mo]).newCells [.int .i64 Y.states,en',mo']) [.int .i64 0,.nils,.nils]
 simp only [next_newCells] at vx vy vr
 have ra:=va.rd (off:=0) (n:=2) (l:=[fe,le]) (by simp) rfl
 have rx:=vx.rd (off:=0) (n:=3) (l:=[.int .i64 X.states,en,mo]) (by simp) rfl
 have ry:=vy.rd (off:=0) (n:=3) (l:=[.int .i64 Y.states,en',mo']) (by simp) rfl
 simp [fn13,aV,ra,rx,ry]
 generalize hg0:(((h.newCells [fe,le]).newCells [.int .i64 X.states,en,mo]).newCells [.int .i64 Y.states,en',mo']).newCells [.int .i64 0,.nils,.nils]=g0 at *
 have gn:g0.next=h.next+4:=by rw [<-hg0];simp
 refine f47 (eb:=false) (hA.mono leh) (hX.mono leh) (hY.mono leh) fun g1 ze zm w1' l1 iz oz=>?_
 change IsAuto g1 ze zm (pairX fAnd A X Y).1 at iz
 change OwnAuto g0 g1 ze zm (pairX fAnd A X Y).1 at oz
 rw [show pairX (fitB false) A X Y=pairX fAnd A X Y from rfl]
 have w8:=w1'.newCells [.int .i64 0,.nils,.nils]
 have l8:=Hle.newCells w1' [.int .i64 0,.nils,.nils]
 obtain ⟨g2,x1,x2,x3⟩:=(Blk.new g1 [.int .i64 0,.nils,.nils]).write (off:=0) (vs:=[.int .i64 (pairX fAnd A X Y).1.states,ze,zm]) (by simp) (one3 rfl oz.oe.one oz.om.one)
 have x2:Blk g2 g1.next [.int .i64 (pairX fAnd A X Y).1.states,ze,zm]:=by simpa using x2
 have l2:=x3.hle l8 w1' (Nat.le_refl _)
 have r2:=x2.rd (off:=0) (n:=3) (l:=[.int .i64 (pairX fAnd A X Y).1.states,ze,zm]) (by simp) rfl
 have oz2:OwnAuto g0 g2 ze zm (pairX fAnd A X Y).1:=⟨oz.oe.mono l2,oz.om.mono l2,oz.ge,oz.go⟩
 obtain ⟨g3,y1,y2,y3,iz3,oz3⟩:=oz2.lay (n:=(pairX fAnd A X Y).1.states) (iz.mono l2) w4 (l1.trans l2) (vr.mono (l1.trans l2)) (fun j hj=>by have:=oz.ge j hj;omega) (fun j hj=>by have:=(oz.go j hj).1;omega)
 simp [aV,x1,r2,y1,y2]
 intro w
 exact H g3 ze zm w (y3.hle (leh.trans (l1.trans l2)) hw (by omega)) iz3 (oz3.up leh.next)
theorem f15 (hA:IsAlpha h fe le A) (hX:IsAuto h en mo X) (hY:IsAuto h en' mo' Y)
  (H:∀ h' ze zm,WF h'->Hle h h'->IsAuto h' ze zm (pairX fOr A X Y).1->OwnAuto h h' ze zm (pairX fOr A X Y).1->k (.tup [aV (pairX fOr A X Y).1.states ze zm,.int .i64 (pairX fOr A X Y).2]) h') :
  Cf 15 [.agg [fe,le],aV X.states en mo,aV Y.states en' mo'] h k:=by
 refine use_code compiled15 fun hw=>?_
 have w1:=hw.newCells [fe,le]
 have le1:=Hle.newCells hw [fe,le]
 have w2:=w1.newCells [.int .i64 X.states,en,mo]
 have le2:=Hle.newCells w1 [.int .i64 X.states,en,mo]
 have w3:=w2.newCells [.int .i64 Y.states,en',mo']
 have le3:=Hle.newCells w2 [.int .i64 Y.states,en',mo']
 have w4:=w3.newCells [.int .i64 0,.nils,.nils]
 have le4:=Hle.newCells w3 [.int .i64 0,.nils,.nils]
 have leh:=((le1.trans le2).trans le3).trans le4
 have va:=(((Blk.new h [fe,le]).mono le2).mono le3).mono le4
 have vx:=((Blk.new (h.newCells [fe,le]) [.int .i64 X.states,en,mo]).mono le3).mono le4
 have vy:=(Blk.new ((h.newCells [fe,le]).newCells [.int .i64 X.states,en,mo]) [.int .i64 Y.states,en',mo']).mono le4
 have vr:=Blk.new (((h.newCells [fe,le]).newCells [.int .i64 X.states,en,mo]).newCells [.int .i64 Y.states,en',mo']) [.int .i64 0,.nils,.nils]
 simp only [next_newCells] at vx vy vr
 have ra:=va.rd (off:=0) (n:=2) (l:=[fe,le]) (by simp) rfl
 have rx:=vx.rd (off:=0) (n:=3) (l:=[.int .i64 X.states,en,mo]) (by simp) rfl
 have ry:=vy.rd (off:=0) (n:=3) (l:=[.int .i64 Y.states,en',mo']) (by simp) rfl
 simp [fn15,aV,ra,rx,ry]
 generalize hg0:(((h.newCells [fe,le]).newCells [.int .i64 X.states,en,mo]).newCells [.int .i64 Y.states,en',mo']).newCells [.int .i64 0,.nils,.nils]=g0 at *
 have gn:g0.next=h.next+4:=by rw [<-hg0];simp
 refine f47 (eb:=true) (hA.mono leh) (hX.mono leh) (hY.mono leh) fun g1 ze zm w1' l1 iz oz=>?_
 change IsAuto g1 ze zm (pairX fOr A X Y).1 at iz
 change OwnAuto g0 g1 ze zm (pairX fOr A X Y).1 at oz
 rw [show pairX (fitB true) A X Y=pairX fOr A X Y from rfl]
 have w8:=w1'.newCells [.int .i64 0,.nils,.nils]
 have l8:=Hle.newCells w1' [.int .i64 0,.nils,.nils]
 obtain ⟨g2,x1,x2,x3⟩:=(Blk.new g1 [.int .i64 0,.nils,.nils]).write (off:=0) (vs:=[.int .i64 (pairX fOr A X Y).1.states,ze,zm]) (by simp) (one3 rfl oz.oe.one oz.om.one)
 have x2:Blk g2 g1.next [.int .i64 (pairX fOr A X Y).1.states,ze,zm]:=by simpa using x2
 have l2:=x3.hle l8 w1' (Nat.le_refl _)
 have r2:=x2.rd (off:=0) (n:=3) (l:=[.int .i64 (pairX fOr A X Y).1.states,ze,zm]) (by simp) rfl
 have oz2:OwnAuto g0 g2 ze zm (pairX fOr A X Y).1:=⟨oz.oe.mono l2,oz.om.mono l2,oz.ge,oz.go⟩
 obtain ⟨g3,y1,y2,y3,iz3,oz3⟩:=oz2.lay (n:=(pairX fOr A X Y).1.states) (iz.mono l2) w4 (l1.trans l2) (vr.mono (l1.trans l2)) (fun j hj=>by have:=oz.ge j hj;omega) (fun j hj=>by have:=(oz.go j hj).1;omega)
 simp [aV,x1,r2,y1,y2]
 intro w
 exact H g3 ze zm w (y3.hle (leh.trans (l1.trans l2)) hw (by omega)) iz3 (oz3.up leh.next)
end Go.Ab.Z
namespace Go.Ab.Z
open Go Go.Ab
variable {h h':AHeap} {k:Post} {fe le en mo en' mo':AVal} {A:PAlpha} {X Y:PAuto}
theorem encR_len (r:Int):(encR r).length<=4:=by
 unfold encR Utf8.encode
 simp only
 repeat' split
 all_goals simp
theorem strOp_add {a b:List UInt8} (h:a.length+b.length<=140737488355328):strOp .add a b=some (.str (a++b)):=by
 show bi (Nat.ble (a.length+b.length) 140737488355328) (some (AVal.str (a++b))) none=_
 rw [nble,decide_eq_true h,bi_true]
theorem wordS_snoc (sy:List Int) (b:List Int) (c:Int):wordS sy (b++[c])=encR (sy.getD c.toNat 0)++wordS sy b:=by
 unfold wordS;simp
theorem wordS_len (sy:List Int):∀ b:List Int,(wordS sy b.reverse).length<=4*b.length
 | []=>by simp [wordS]
 | c :: b=>by
  rw [List.reverse_cons,wordS_snoc,List.length_append]
  have:=encR_len (sy.getD c.toNat 0)
  have:=wordS_len sy b
  simp only [List.length_cons];omega
theorem wordS_len' (sy b:List Int):(wordS sy b).length<=4*b.length:=by
 have:=wordS_len sy b.reverse;simpa using this
structure MemT (h₀ h:AHeap) (mb:Nat) (pv fv bv:AVal) (mp:List (K2×Int)) (w:List N4):Prop where
 wf:WF h
 hle:Hle h₀ h
 map:MapOf K75 e75 vI h mb mp
 met:∀ q,aget mp q=if q∈w.map (·.1) then some 1 else none
 pw:ORow h 2 pv w.length (w.map fun x=>e2 x.1).flatten
 fw:ORow h 1 fv w.length (w.map fun x=>vI x.2.1)
 bw:ORow h 1 bv w.length (w.map fun x=>vI x.2.2)
 gm:h₀.next<=mb
 gp:∀ j∈blkOf pv,h₀.next<=j/\j≠mb
 gf:∀ j∈blkOf fv,h₀.next<=j/\j≠mb/\j∉blkOf pv
 gb:∀ j∈blkOf bv,h₀.next<=j/\j≠mb/\j∉blkOf pv/\j∉blkOf fv
section
variable {h₀:AHeap} {mb:Nat} {pv fv bv:AVal} {w:List N4} {mp:List (K2×Int)}
theorem MemT.mono (M:MemT h₀ h mb pv fv bv mp w) (w':WF h') (l:Hle h h'):MemT h₀ h' mb pv fv bv mp w:=⟨w',M.hle.trans l,M.map.mono l,M.met,M.pw.mono l,M.fw.mono l,M.bw.mono l,M.gm,M.gp,M.gf,M.gb⟩
theorem MemT.lts (M:MemT h₀ h mb pv fv bv mp w):mb < h.next/\(∀ j∈blkOf pv,j < h.next)/\(∀ j∈blkOf fv,j < h.next)/\∀ j∈blkOf bv,j < h.next:=⟨M.map.lt M.wf,own_lt M.pw M.wf,own_lt M.fw M.wf,own_lt M.bw M.wf⟩
theorem MemT.at (M:MemT h₀ h mb pv fv bv mp w) {n:Nat} (hn:n < w.length):indexAddrS 2 pv (.int .i64 (n:Int))=some (.ptr (rowB pv) (n*2))/\h.read (rowB pv) (n*2) 2=some (e2 w[n].1) /\
  indexAddrS 1 fv (.int .i64 (n:Int))=some (.ptr (rowB fv) n)/\h.read1 (rowB fv) n=some (.int .i64 w[n].2.1)/\indexAddrS 1 bv (.int .i64 (n:Int))=some (.ptr (rowB bv) n)/\h.read1 (rowB bv) n=some (.int .i64 w[n].2.2):=by
 have r:Row h 2 pv (w.map fun x=>e2 x.1):=M.pw.row (by intro l hl;obtain ⟨s,_,rfl⟩:=List.mem_map.1 hl;rfl) (by simp) rfl
 have i1:=M.pw.idx hn .i64
 have ro:rowO pv=0:=by
  obtain ⟨_,⟨rfl,_⟩ | ⟨b,cap,rest,rfl,_⟩⟩:=M.pw<;>rfl
 have qq:=r.rd (i:=n) (l:=e2 w[n].1) (by simp [hn])
 rw [ro,Nat.zero_add] at qq
 obtain ⟨f1,f2⟩:=orow_at M.fw hn (c:=vI w[n].2.1) (by simp [hn]) rfl
 obtain ⟨b1,b2⟩:=orow_at M.bw hn (c:=vI w[n].2.2) (by simp [hn]) rfl
 exact ⟨i1,qq,f1,f2,b1,b2⟩
theorem MemT.push (M:MemT h₀ h mb pv fv bv mp w) (w₀:WF h₀) (q:K2) (n c:Int) (hq:q∉w.map (·.1)) (hn:w.length < 60000000):∃ h2 h3 h4 h5,updateA K75 (.map mb) (e75 q) (.int .i64 1) h=some (none,h2)/\But mb h h2 /\
  appendA (h2.newCells (e2 q)) 2 pv (.slice h2.next 0 1 1 2)=some (some (.slice (h2.next+1) 0 (w.length+1) (w.length+1) 2),h3)/\h3.next=h2.next+2 /\
  appendA (h3.newCells [.int .i64 n]) 1 fv (.slice h3.next 0 1 1 1)=some (some (.slice (h3.next+1) 0 (w.length+1) (w.length+1) 1),h4)/\h4.next=h3.next+2 /\
  appendA (h4.newCells [.int .i64 c]) 1 bv (.slice h4.next 0 1 1 1)=some (some (.slice (h4.next+1) 0 (w.length+1) (w.length+1) 1),h5) /\
  MemT h₀ h5 mb (.slice (h2.next+1) 0 (w.length+1) (w.length+1) 2) (.slice (h3.next+1) 0 (w.length+1) (w.length+1) 1) (.slice (h4.next+1) 0 (w.length+1) (w.length+1) 1) (aput mp q 1) (w++[(q,n,c)]) /\
  (∀ j,j≠mb->j∉blkOf pv->j∉blkOf fv->j∉blkOf bv->Kp h h5 j)/\h2.next=h.next:=by
 obtain ⟨h2,a1,a2,a3⟩:=M.map.update (kd75 vI) q 1
 obtain ⟨l1,l2,l3,l4⟩:=M.lts
 have hge:=M.hle.next
 have n2:=a3.next
 have w2:=a3.wf M.wf l1
 have K02:∀ j,j≠mb->Kp h h2 j:=fun j hj=>But.kp a3 hj
 have pw2:=own_kp M.pw fun j hj=>K02 j (M.gp j hj).2
 obtain ⟨h3,b1,b2,w3,n3,K23⟩:=orow_push pw2 w2 (e2 q) rfl (by omega) rfl
 have K03:∀ j,j≠mb->j∉blkOf pv->Kp h h3 j:=fun j h1 h2=>Kp.trans (K02 j h1) (K23 j h2)
 have fw3:=own_kp M.fw fun j hj=>K03 j (M.gf j hj).2.1 (M.gf j hj).2.2
 obtain ⟨h4,c1,c2,w4,n4,K34⟩:=orow_push fw3 w3 [vI n] rfl (by omega) rfl
 have K04:∀ j,j≠mb->j∉blkOf pv->j∉blkOf fv->Kp h h4 j:=fun j h1 h2 h3=>Kp.trans (K03 j h1 h2) (K34 j h3)
 have bw4:=own_kp M.bw fun j hj=>K04 j (M.gb j hj).2.1 (M.gb j hj).2.2.1 (M.gb j hj).2.2.2
 obtain ⟨h5,d1,d2,w5,n5,K45⟩:=orow_push bw4 w4 [vI c] rfl (by omega) rfl
 have K05:∀ j,j≠mb->j∉blkOf pv->j∉blkOf fv->j∉blkOf bv->Kp h h5 j:=fun j h1 h2 h3 h4=>Kp.trans (K04 j h1 h2 h3) (K45 j h4)
 refine ⟨h2,h3,h4,h5,a1,a3,b1,n3,c1,n4,d1,⟨w5,⟨by omega,fun j y e=>?_⟩,?_,fun q'=>?_,?_,?_,?_,M.gm,fun j hj=>?_,fun j hj=>?_,fun j hj=>?_⟩,K05,n2⟩
 ·have jl:=w₀.lt e
  refine K05 j (fun e2=>?_) (fun hj=>?_) (fun hj=>?_) (fun hj=>?_) y (M.hle.get j y e)
  ·have:=M.gm;omega
  ·have:=(M.gp j hj).1;omega
  ·have:=(M.gf j hj).1;omega
  ·have:=(M.gb j hj).1;omega
 ·exact MapOf.kp' a2 (Kp.trans (K23 mb fun hj=>(M.gp mb hj).2 rfl) (Kp.trans (K34 mb fun hj=>(M.gf mb hj).2.1 rfl) (K45 mb fun hj=>(M.gb mb hj).2.1 rfl)))
 ·rw [aget_aput,M.met q']
  have hm:q'∈(w++[(q,n,c)]).map (·.1)↔q'∈w.map (·.1)\/q'=q:=by
   rw [List.map_append,List.mem_append]
   exact or_congr Iff.rfl (by simp)
  by_cases hqq:q'=q
  ·rw [if_pos hqq,if_pos (hm.2 (.inr hqq))]
  ·rw [if_neg hqq]
   by_cases h1:q'∈w.map (·.1)
   ·rw [if_pos h1,if_pos (hm.2 (.inl h1))]
   ·rw [if_neg h1,if_neg fun e=>(hm.1 e).elim h1 hqq]
 ·rw [List.length_append,List.length_singleton,List.map_append,List.flatten_append]
  have:(List.map (fun x:N4=>e2 x.1) [(q,n,c)]).flatten=e2 q:=by simp
  rw [this]
  exact own_kp b2 fun j hj=>by
   simp [blkOf] at hj;subst hj
   exact Kp.trans (K34 _ fun hj=>by have:=l3 _ hj;omega) (K45 _ fun hj=>by have:=l4 _ hj;omega)
 ·rw [List.length_append,List.length_singleton,List.map_append]
  exact own_kp c2 fun j hj=>by
   simp [blkOf] at hj;subst hj
   exact K45 _ fun hj=>by have:=l4 _ hj;omega
 ·rw [List.length_append,List.length_singleton,List.map_append]
  exact d2
 ·simp [blkOf] at hj;subst hj;exact ⟨by omega,by omega⟩
 ·simp [blkOf] at hj;subst hj;exact ⟨by omega,by omega,by simp [blkOf];omega⟩
 ·simp [blkOf] at hj;subst hj;exact ⟨by omega,by omega,by simp [blkOf];omega,by simp [blkOf];omega⟩
end
end Go.Ab.Z
namespace Go.Ab.Z
open Go Go.Ab
variable {h h':AHeap} {k:Post} {fe le en mo en' mo':AVal} {A:PAlpha} {X Y:PAuto}
set_option maxHeartbeats 4000000 in
theorem f17 (hA:IsAlpha h fe le A) (hX:IsAuto h en mo X) (hY:IsAuto h en' mo' Y)
  (H:∀ h',WF h'->Hle h h'->k (.tup [.bool (sameX A X Y).1,.str (sameX A X Y).2.1,.int .i64 (sameX A X Y).2.2]) h'):Cf 17 [.agg [fe,le],aV X.states en mo,aV Y.states en' mo'] h k:=by
 refine use_code compiled17 fun hw=>?_
 have w1:=hw.newCells [fe,le]
 have le1:=Hle.newCells hw [fe,le]
 have w2:=w1.newCells [.int .i64 X.states,en,mo]
 have le2:=Hle.newCells w1 [.int .i64 X.states,en,mo]
 have w3:=w2.newCells [.int .i64 Y.states,en',mo']
 have le3:=Hle.newCells w2 [.int .i64 Y.states,en',mo']
 have leh:=(le1.trans le2).trans le3
 have va:=((Blk.new h [fe,le]).mono le2).mono le3
 have vx:=(Blk.new (h.newCells [fe,le]) [.int .i64 X.states,en,mo]).mono le3
 have vy:=Blk.new ((h.newCells [fe,le]).newCells [.int .i64 X.states,en,mo]) [.int .i64 Y.states,en',mo']
 simp only [next_newCells] at vx vy
 have ra:=va.rd (off:=0) (n:=2) (l:=[fe,le]) (by simp) rfl
 have rx:=vx.rd (off:=0) (n:=3) (l:=[.int .i64 X.states,en,mo]) (by simp) rfl
 have ry:=vy.rd (off:=0) (n:=3) (l:=[.int .i64 Y.states,en',mo']) (by simp) rfl
 have alen:=hA.llen
 simp [fn17,aV,ra,rx,ry]
 generalize hg0:((h.newCells [fe,le]).newCells [.int .i64 X.states,en,mo]).newCells [.int .i64 Y.states,en',mo']=g0 at *
 clear vx vy ra rx ry w1 w2 le1 le2 le3
 have lay2:∀ (g:AHeap) (t e t' e':AVal),WF g->oneA t=true->oneA e=true->oneA t'=true->oneA e'=true->∃ g1 g2,((g.newCells [.nils,.nils]).newCells [.nils,.nils]).write g.next 0 [t,e]=some g1/\g1.write (g.next+1) 0 [t',e']=some g2/\Blk g2 g.next [t,e]/\Blk g2 (g.next+1) [t',e']/\Hle g g2/\WF g2/\g2.next=g.next+2:=by
  intro g t e t' e' wg o1 o2 o3 o4
  have wA:=wg.newCells [.nils,.nils]
  have lA:=Hle.newCells wg [.nils,.nils]
  have wB:=wA.newCells [.nils,.nils]
  have lB:=Hle.newCells wA [.nils,.nils]
  obtain ⟨g1,a1,a2,a3⟩:=((Blk.new g [.nils,.nils]).mono lB).write (off:=0) (vs:=[t,e]) (by simp) (two_one o1 o2)
  have a2:Blk g1 g.next [t,e]:=by simpa using a2
  have b0:=Blk.new (g.newCells [.nils,.nils]) [.nils,.nils]
  simp only [next_newCells] at b0
  obtain ⟨g2,b1,b2,b3⟩:=(Blk.kp b0 (But.kp a3 (by omega))).write (off:=0) (vs:=[t',e']) (by simp) (two_one o3 o4)
  exact ⟨g1,g2,a1,b1,Blk.kp a2 (But.kp b3 (by omega)),by simpa using b2,b3.hle (a3.hle (lA.trans lB) wg (Nat.le_refl _)) wg (by omega),b3.wf (a3.wf wB (by simp;omega)) (by rw [a3.next];simp),by rw [b3.next,a3.next];simp⟩
 refine f53 (hA.mono leh) (hX.mono leh) (hY.mono leh) (fun hb g1 t1 e1 t2 e2' wg l1 G1 G2=>?_) (fun hb g1 t1 e1 t2 e2' wg l1 o1 o2 o3 o4=>?_)
 rotate_left
 ·have hs:sameX A X Y=(false,[],bothE A X Y):=by unfold sameX;rw [if_pos hb]
  rw [hs] at H
  obtain ⟨g2,g3,x1,x2,x3,x4,x5,x6,_⟩:=lay2 g1 t1 e1 t2 e2' wg o1 o2 o3 o4
  have d:decide (bothE A X Y=0)=false:=decide_eq_false hb
  simp [x1,x2]
  simp only [d]
  simp
  exact fun w=>H g3 w (leh.trans (l1.trans x5))
 obtain ⟨ha,hx,hy,k1,k2⟩:=bothE_zero hb
 have hL1:=ha.1.2.1
 have hL:=ha.1.2.2
 have p1:=mR_pos k1
 have p2:=mR_pos k2
 have rw1:=mR_w A X
 have rw2:=mR_w A Y
 have el1:=mE_len A X
 have el2:=mE_len A Y
 have bg:bigF (mR A X).length (mR A Y).length < 60000000:=by
  unfold bigF
  have:((mR A X).length+1)*((mR A Y).length+1)<=4097*4097:=Nat.mul_le_mul (by omega) (by omega)
  omega
 have hs:sameX A X Y=((sameS (mR A X) (mR A Y) (mE A X) (mE A Y) A.letters.length (bigF (mR A X).length (mR A Y).length) 0 [((0,0),-1,0)]).1,
   wordS A.sy (sameS (mR A X) (mR A Y) (mE A X) (mE A Y) A.letters.length (bigF (mR A X).length (mR A Y).length) 0 [((0,0),-1,0)]).2.1,
   (sameS (mR A X) (mR A Y) (mE A X) (mE A Y) A.letters.length (bigF (mR A X).length (mR A Y).length) 0 [((0,0),-1,0)]).2.2):=by unfold sameX;rw [if_neg (by simp [hb])]
 rw [hs] at H
 clear hs hb
 generalize mR A X=R at *
 generalize mR A Y=R' at *
 generalize mE A X=E at *
 generalize mE A Y=E' at *
 have so:SOk R.length R'.length A.letters.length [((0,0),-1,0)]:=begS_ok p1.1 p2.1 hL1
 obtain ⟨o1,o2⟩:=graph_one G1.it
 obtain ⟨o3,o4⟩:=graph_one G2.it
 obtain ⟨ga,gb,x1,x2,x3,x4,x5,x6,x7⟩:=lay2 g1 t1 e1 t2 e2' wg o1 o2 o3 o4
 have l1b:=l1.trans x5
 have G1b:=G1.mono x5
 have G2b:=G2.mono x5
 have vab:=va.mono l1b
 have lA:=leh.trans l1b
 have wA:=x6.new (.map 75 [] 0)
 have lB:=Hle.new x6 (.map 75 [] 0)
 obtain ⟨gc,u1,u2,u3⟩:=(MapOf.new (K:=K75) (ek:=e75) (ev:=vI) gb).update (kd75 vI) (0,0) 1
 have u1:updateA ⟨75,true,[.int .i64,.int .i64]⟩ (.map gb.next) (.agg [.int .i64 0,.int .i64 0]) (.int .i64 1) (gb.new (.map 75 [] 0))=some (none,gc):=u1
 have wc:=u3.wf wA (by simp)
 have lc:=u3.hle lB x6 (Nat.le_refl _)
 have nc:gc.next=gb.next+1:=by rw [u3.next];simp
 have wd:=wc.newCells [.int .i64 0,.int .i64 0]
 have ld:=Hle.newCells wc [.int .i64 0,.int .i64 0]
 have we:=wd.newCells [.int .i64 (-1)]
 have le':=Hle.newCells wd [.int .i64 (-1)]
 have wf:=we.newCells [.int .i64 0]
 have lf:=Hle.newCells we [.int .i64 0]
 have C0:MemT gb (((gc.newCells [.int .i64 0,.int .i64 0]).newCells [.int .i64 (-1)]).newCells [.int .i64 0]) gb.next (.slice gc.next 0 1 1 2) (.slice (gc.next+1) 0 1 1 1) (.slice (gc.next+1+1) 0 1 1 1) [((0,0),1)] [((0,0),-1,0)]:=by
  refine ⟨wf,((lc.trans ld).trans le').trans lf,((u2.mono ld).mono le').mono lf,fun q=>by simp [aget],?_,?_,?_,Nat.le_refl _,fun j hj=>?_,fun j hj=>?_,fun j hj=>?_⟩
  ·exact ((ORow.fresh gc (sz:=2) (n:=1) (cs:=[.int .i64 0,.int .i64 0]) rfl).mono le').mono lf
  ·exact (ORow.fresh (gc.newCells [.int .i64 0,.int .i64 0]) (sz:=1) (n:=1) (cs:=[.int .i64 (-1)]) rfl).mono lf
  ·exact ORow.fresh ((gc.newCells [.int .i64 0,.int .i64 0]).newCells [.int .i64 (-1)]) (sz:=1) (n:=1) (cs:=[.int .i64 0]) rfl
  ·simp [blkOf] at hj;omega
  ·simp [blkOf] at hj;exact ⟨by omega,by omega,by simp [blkOf];omega⟩
  ·simp [blkOf] at hj;exact ⟨by omega,by omega,by simp [blkOf];omega,by simp [blkOf];omega⟩
 simp [x1,x2,<-x7,listPut,u1]
 clear u1 u2 u3 wA lB lay2
 generalize hans:sameS R R' E E' A.letters.length (bigF R.length R'.length) 0 [((0,0),-1,0)]=ans at *
 rw [L17_1]
 refine loop_by (σ:=AVal×AVal×AVal×Nat) (fun s h'=>∃ w mp,MemT gb h' gb.next s.1 s.2.1 s.2.2.1 mp w/\SOk R.length R'.length A.letters.length w/\s.2.2.2<=w.length/\sameS R R' E E' A.letters.length (bigF R.length R'.length - s.2.2.2) s.2.2.2 w=ans)
  (fun s=>[(3,.ptr h.next 0),(9,.ptr g1.next 0),(10,.ptr (g1.next+1) 0),(12,.map gb.next),(13,s.1),(14,s.2.1),(15,s.2.2.1),(16,.int .i64 s.2.2.2)]) (fun s=>bigF R.length R'.length - s.2.2.2) (.slice gc.next 0 1 1 2,.slice (gc.next+1) 0 1 1 1,.slice (gc.next+1+1) 0 1 1 1,0) (by simp) ?_ ?_
 ·exact ⟨_,_,C0,so,Nat.zero_le _,hans⟩
 clear C0 so hans wd we wf ld le' lf lc wc nc
 rintro ⟨pv,fv,bv,n⟩ h4 K ⟨w,mp,C,so,hn,hrun⟩ hK
 simp only at C hn hrun hK
 have wl:=C.pw.len
 have wle:=so.le
 simp [wl]
 refine ap_split (fun hd=>?_) (fun hd=>?_)
 rotate_left
 ·have:n=w.length:=by omega
  subst this
  have ha:ans=(true,[],0):=by
   rw [<-hrun,show bigF R.length R'.length - w.length=(bigF R.length R'.length - w.length - 1)+1 by omega]
   unfold sameS
   rw [List.getElem?_eq_none (Nat.le_refl _)]
  rw [ha] at H
  simp
  intro w'
  exact H h4 w' (lA.trans C.hle)
 have hd:n < w.length:=by omega
 obtain ⟨i1,i2,_,_,_,_⟩:=C.at hd
 have wn:w[n]?=some w[n]:=List.getElem?_eq_getElem hd
 have hrun':(if endG E w[n].1.1≠endG E' w[n].1.2 then (if 256 < (backS w w.length n).length then (false,[],9) else (false,backS w w.length n,0))
   else sameS R R' E E' A.letters.length (bigF R.length R'.length - (n+1)) (n+1) (rowSS R R' n (List.range A.letters.length) w))=ans:=by
  rw [<-hrun,show bigF R.length R'.length - n=(bigF R.length R'.length - (n+1))+1 by omega]
  conv=>rhs;unfold sameS
  rw [wn]
 clear hrun
 have inp:=so.inp w[n] (List.getElem_mem hd)
 have wD:=C.wf.newCells [.int .i64 0,.int .i64 0]
 have lD:=Hle.newCells C.wf [.int .i64 0,.int .i64 0]
 obtain ⟨h5,c1,c2,c3⟩:=(Blk.new h4 [.int .i64 0,.int .i64 0]).write (off:=0) (vs:=e2 w[n].1) (by simp [e2]) rfl
 have lE:=c3.hle lD C.wf (Nat.le_refl _)
 have wE:=c3.wf wD (by simp)
 have c2:Blk h5 h4.next (e2 w[n].1):=by simpa [e2] using c2
 have c1:(h4.newCells [.int .i64 0,.int .i64 0]).write h4.next 0 [.int .i64 w[n].1.1,.int .i64 w[n].1.2]=some h5:=c1
 have C5:=C.mono wE lE
 have l15:=C5.hle
 have d0:=c2.rd1 (i:=0) (c:=.int .i64 w[n].1.1) rfl
 have d1:=c2.rd1 (i:=1) (c:=.int .i64 w[n].1.2) rfl
 have b9:=(x3.mono l15).rd (off:=0) (n:=2) (l:=[t1,e1]) (by simp) rfl
 have b10:=fun {g:AHeap} (l:Hle h5 g)=>(x4.mono (l15.trans l)).rd (off:=0) (n:=2) (l:=[t2,e2']) (by simp) rfl
 have b10':=b10 (Hle.refl h5)
 have sv2:sameV (.agg [t2,e2']) (.agg [t2,e2'])=true:=by
  show bi (same1 t2 t2) (bi (same1 e2' e2') true false) false=true
  rw [row_same1 G2b.it.to.choose_spec.2.1,row_same1 G2b.it.en];rfl
 simp only [e2] at i2
 simp [i1,i2,c1,indexAddrA,d0,d1,b9,b10']
 refine f54 (G1b.mono l15).it (by rw [el1];exact inp.1.2) fun h6 w6 l56=>?_
 have d1':=(c2.mono l56).rd1 (i:=1) (c:=.int .i64 w[n].1.2) rfl
 have b10'':=b10 l56
 simp [d1',b10'',sv2]
 refine f54 (G2b.mono (l15.trans l56)).it (by rw [el2];exact inp.2.2) fun h7 w7 l67=>?_
 have l57:=l56.trans l67
 have C7:=C5.mono w7 l57
 have c7:=c2.mono l57
 have l17:=C7.hle
 simp
 by_cases hne:endG E w[n].1.1=endG E' w[n].1.2
 rotate_left
 ·
  rw [if_pos hne] at hrun'
  have dn:(endG E w[n].1.1 == endG E' w[n].1.2)=false:=by simp [hne]
  simp only [dn]
  simp
  rw [L17_2]
  have va5:=vab.mono l17
  have hA5:=(hA.mono lA).mono l17
  refine loop_by (σ:=Nat×Nat×List Int) (fun s h'=>h'=h7/\s.1 < w.length/\s.1 < s.2.1/\s.2.2.length+s.1<=n/\s.2.2++backS w s.2.1 s.1=backS w w.length n)
   (fun s=>[(3,.ptr h.next 0),(14,fv),(15,bv),(18,.str (wordS A.sy s.2.2)),(19,.int .i64 s.2.2.length),(20,.int .i64 s.1)]) (fun s=>s.1) (n,w.length,[]) (by simp [wordS]) ?_ ?_
  ·exact ⟨rfl,hd,hd,by simp,rfl⟩
  rintro ⟨j,F,bs⟩ h8 K2 ⟨rfl,hj,hjF,hlen,htot⟩ hK2
  simp only at hj hjF hlen htot hK2
  obtain ⟨F',rfl⟩:∃ F',F=F'+1:=⟨F - 1,by omega⟩
  obtain ⟨_,_,j3,j4,j5,j6⟩:=C7.at hj
  have wj:w[j]?=some w[j]:=List.getElem?_eq_getElem hj
  have fr:=so.fr j _ wj
  have by_:=so.by_ _ (List.getElem_mem hj)
  rw [backS_at wj] at htot
  simp [j3,j4]
  by_cases hf:w[j].2.1 < 0
  rotate_left
  ·rw [if_neg hf] at htot
   have df:decide (w[j].2.1 < 0)=false:=decide_eq_false hf
   obtain ⟨c,hc⟩:=Int.eq_ofNat_of_zero_le by_.1
   obtain ⟨b,hbk⟩:=Int.eq_ofNat_of_zero_le (by omega:0<=w[j].2.1)
   have hcl:c < A.letters.length:=by omega
   obtain ⟨q1,q2⟩:=hA5.runeAt hcl
   have vl:=va5.rd1 (i:=1) (c:=le) rfl
   have j6':=j6
   rw [hc] at j6'
   have wl2:=wordS_len' A.sy bs
   have el4:=encR_len (A.sy.getD c 0)
   have sa:strOp .add (encR (A.sy.getD c 0)) (wordS A.sy bs)=some (.str (encR (A.sy.getD c 0)++wordS A.sy bs)):=strOp_add (by omega)
   have hb1:bs.length<=n:=by omega
   have wrl:wrapF .i64 ((bs.length:Int)+1)=(bs.length:Int)+1:=wrap64 (by omega) (by omega)
   have j4':=j4
   rw [hbk] at j4'
   have cv:∀ g:AHeap,convA .intToStr (.int .i32 (A.sy.getD c 0)) g=some (some (.str (encR (A.sy.getD c 0))),g):=fun g=>rfl
   generalize hrn:A.sy.getD c 0=rn at *
   simp only [df]
   simp [vl,j5,j6',q1,q2,cv,-convA_intToStr,sa,wrl,j3,j4']
   refine hK2 (b,F',bs++[w[j].2.2]) _ _ (by simp;omega) ?_ ⟨rfl,by simp;omega,by simp;omega,by simp;omega,?_⟩
   ·rw [hc,wordS_snoc,Int.toNat_natCast,hrn];simp
   ·simp only
    rw [<-htot,hbk]
    simp
  ·rw [if_pos hf,List.append_nil] at htot
   have df:decide (w[j].2.1 < 0)=true:=decide_eq_true hf
   simp only [df]
   simp
   refine ap_split (fun hz=>?_) (fun hz=>?_)
   ·rw [<-htot,if_pos (by omega)] at hrun'
    rw [<-hrun'] at H
    simp
    exact fun w'=>H h8 w' (lA.trans l17)
   ·rw [<-htot,if_neg (by omega)] at hrun'
    rw [<-hrun'] at H
    simp
    exact fun w'=>H h8 w' (lA.trans l17)
 ·
  rw [if_neg (by simp [hne])] at hrun'
  have dn:(endG E w[n].1.1 == endG E' w[n].1.2)=true:=by simp [hne]
  simp only [dn]
  simp
  rw [L17_3]
  have h4n:h4.next < h7.next:=c7.lt w7
  have h41:gb.next < h4.next:=C.lts.1
  refine loop_by (σ:=AVal×AVal×AVal×Nat) (fun s h'=>∃ w' mp',w'=rowSS R R' n (List.range s.2.2.2) w/\MemT gb h' gb.next s.1 s.2.1 s.2.2.1 mp' w'/\SOk R.length R'.length A.letters.length w'/\Blk h' h4.next (e2 w[n].1)/\h4.next∉blkOf s.1/\h4.next∉blkOf s.2.1/\h4.next∉blkOf s.2.2.1/\s.2.2.2<=A.letters.length)
   (fun s=>[(3,.ptr h.next 0),(9,.ptr g1.next 0),(10,.ptr (g1.next+1) 0),(12,.map gb.next),(13,s.1),(14,s.2.1),(15,s.2.2.1),(16,.int .i64 n),(17,.ptr h4.next 0),(21,.int .i64 s.2.2.2)]) (fun s=>A.letters.length - s.2.2.2) (pv,fv,bv,0) (by simp) ?_ ?_
  ·obtain ⟨_,m1,m2,m3⟩:=C.lts
   exact ⟨w,mp,rfl,C7,so,c7,fun hj=>by have:=m1 _ hj;omega,fun hj=>by have:=m2 _ hj;omega,fun hj=>by have:=m3 _ hj;omega,Nat.zero_le _⟩
  clear C5 C7 c1 c2 c3 c7 lD lE wD wE d0 d1 d1' i1 i2 l15 wl b9 b10' b10'' l56 l67 l57 l17 h4n w6 w7 h6 h7
  rintro ⟨pv,fv,bv,c⟩ h6 K2 ⟨w',mp',hw',C6,so',b15,nb1,nb2,nb3,hcl⟩ hK2
  simp only at hw' C6 nb1 nb2 nb3 hcl hK2
  have l16:=C6.hle
  have ra6:=(vab.mono l16).rd1 (i:=1) (c:=le) rfl
  simp [ra6,alen]
  refine ap_split (fun hq=>?_) (fun hq=>?_)
  ·have hq:c < A.letters.length:=by omega
   have lt6:=b15.lt C6.wf
   have d0:=b15.rd1 (i:=0) (c:=.int .i64 w[n].1.1) rfl
   have d1:=b15.rd1 (i:=1) (c:=.int .i64 w[n].1.2) rfl
   have hsn:rowSS R R' n (List.range (c+1)) w=stepS R R' n w' c:=by rw [List.range_succ,rowSS_snoc,<-hw']
   have hget:w'[n]?=some w[n]:=by rw [hw',(rowSS_get (R:=R) (R':=R') (n:=n) (List.range c) hd).1,wn]
   have hst:stepS R R' n w' c=if ((stepP R R' w[n].1 c).1 < 0/\(stepP R R' w[n].1 c).2 < 0)\/stepP R R' w[n].1 c∈w'.map (·.1) then w' else w'++[(stepP R R' w[n].1 c,(n:Int),(c:Int))]:=by
    conv=>lhs;unfold stepS
    rw [hget]
   have so2:=so'.step (n:=n) rw1 rw2 hq
   rw [hst] at hsn so2
   have wr:wrapF .i64 ((c:Int)+1)=(c:Int)+1:=wrap64 (by omega) (by omega)
   have b9:=fun {g:AHeap} (l:Hle h6 g)=>(x3.mono (l16.trans l)).rd (off:=0) (n:=2) (l:=[t1,e1]) (by simp) rfl
   have b10:=fun {g:AHeap} (l:Hle h6 g)=>(x4.mono (l16.trans l)).rd (off:=0) (n:=2) (l:=[t2,e2']) (by simp) rfl
   have sv1:sameV (.agg [t1,e1]) (.agg [t1,e1])=true:=by
    show bi (same1 t1 t1) (bi (same1 e1 e1) true false) false=true
    rw [row_same1 G1b.it.to.choose_spec.2.1,row_same1 G1b.it.en];rfl
   simp [indexAddrA,d0,d1,b9 (Hle.refl _),b10 (Hle.refl _)]
   refine f55 (G1b.mono l16).it.to inp.1.2 (fun r hr=>by rw [rw1.len r hr];exact hq) fun h61 w61 l61=>?_
   have d1':=(b15.mono l61).rd1 (i:=1) (c:=.int .i64 w[n].1.2) rfl
   simp [d1',b10 l61,sv2]
   refine f55 (G2b.mono (l16.trans l61)).it.to inp.2.2 (fun r hr=>by rw [rw2.len r hr];exact hq) fun h62 w62 l62=>?_
   have l66:=l61.trans l62
   have C62:=C6.mono w62 l66
   have b62:=b15.mono l66
   generalize hqq:stepP R R' w[n].1 c=q at *
   have hq1:stepG R w[n].1.1 c=q.1:=by rw [<-hqq];rfl
   have hq2:stepG R' w[n].1.2 c=q.2:=by rw [<-hqq];rfl
   rw [hq1,hq2]
   have wD:=w62.newCells [.int .i64 0,.int .i64 0]
   have lD:=Hle.newCells w62 [.int .i64 0,.int .i64 0]
   obtain ⟨h7,c1,c2,c3⟩:=(Blk.new h62 [.int .i64 0,.int .i64 0]).write (off:=0) (vs:=e2 q) (by simp [e2]) rfl
   have l7:=c3.hle lD w62 (Nat.le_refl _)
   have w7:=c3.wf wD (by simp)
   have c2:Blk h7 h62.next (e2 q):=by simpa [e2] using c2
   have c1:(h62.newCells [.int .i64 0,.int .i64 0]).write h62.next 0 [.int .i64 q.1,.int .i64 q.2]=some h7:=c1
   have n7:h7.next=h62.next+1:=by rw [c3.next];simp
   have C7:=C62.mono w7 l7
   have b7:=b62.mono l7
   have d0D:=(b62.mono lD).rd1 (i:=0) (c:=.int .i64 w[n].1.1) rfl
   have d1D:=(b62.mono lD).rd1 (i:=1) (c:=.int .i64 w[n].1.2) rfl
   have b9D:=b9 (l66.trans lD)
   have b10D:=b10 (l66.trans lD)
   have t0:=c2.rd1 (i:=0) (c:=.int .i64 q.1) rfl
   have t1':=c2.rd1 (i:=1) (c:=.int .i64 q.2) rfl
   have r7:=pair_rd c2
   simp only [e2] at r7
   have lk:=C7.map.lookup (kd75 vI) q (.int .i64 0) false
   have lk:lookupA ⟨75,true,[.int .i64,.int .i64]⟩ (.int .i64 0) false (.map gb.next) (.agg [.int .i64 q.1,.int .i64 q.2]) h7=found (.int .i64 0) false ((aget mp' q).map vI):=lk
   rw [C7.met q] at lk
   have wle':=so'.le
   have n66:=l66.next
   have skip:((q.1 < 0/\q.2 < 0)\/q∈w'.map (·.1))->∀ T,Has T [(3,.ptr h.next 0),(9,.ptr g1.next 0),(10,.ptr (g1.next+1) 0),(12,.map gb.next),(13,pv),(14,fv),(15,bv),(16,.int .i64 n),(17,.ptr h4.next 0),(21,.int .i64 ((c:Int)+1))]->K2 T h7:=by
    intro hz T hT
    rw [if_pos hz] at hsn
    exact hK2 (pv,fv,bv,c+1) T _ (by simp;omega) (by simpa using hT) ⟨w',mp',hsn.symm,C7,so',b7,nb1,nb2,nb3,by simp;omega⟩
   have more:¬ ((q.1 < 0/\q.2 < 0)\/q∈w'.map (·.1))->∃ h9 h10 h11 h12,updateA ⟨75,true,[.int .i64,.int .i64]⟩ (.map gb.next) (.agg [.int .i64 q.1,.int .i64 q.2]) (.int .i64 1) h7=some (none,h9)/\h9.read h62.next 0 2=some [.int .i64 q.1,.int .i64 q.2] /\
     appendA (h9.newCells [.int .i64 q.1,.int .i64 q.2]) 2 pv (.slice h9.next 0 1 1 2)=some (some (.slice (h9.next+1) 0 (w'.length+1) (w'.length+1) 2),h10) /\
     appendA (h10.newCells [.int .i64 n]) 1 fv (.slice h10.next 0 1 1 1)=some (some (.slice (h10.next+1) 0 (w'.length+1) (w'.length+1) 1),h11) /\
     appendA (h11.newCells [.int .i64 c]) 1 bv (.slice h11.next 0 1 1 1)=some (some (.slice (h11.next+1) 0 (w'.length+1) (w'.length+1) 1),h12) /\
     ∀ T,Has T [(3,.ptr h.next 0),(9,.ptr g1.next 0),(10,.ptr (g1.next+1) 0),(12,.map gb.next),(13,.slice (h9.next+1) 0 (w'.length+1) (w'.length+1) 2),(14,.slice (h10.next+1) 0 (w'.length+1) (w'.length+1) 1),(15,.slice (h11.next+1) 0 (w'.length+1) (w'.length+1) 1),(16,.int .i64 n),(17,.ptr h4.next 0),(21,.int .i64 ((c:Int)+1))]->K2 T h12:=by
    intro hz
    rw [if_neg hz] at hsn so2
    simp only [not_or] at hz
    obtain ⟨h9,h10,h11,h12,z1,z2,z3,z4,z5,z6,z7,z8,z9,z10⟩:=C7.push x6 q (n:Int) (c:Int) hz.2 (by omega)
    have c9:=Blk.kp c2 (But.kp z2 (by have:=C6.lts.1;omega))
    have r9:=pair_rd c9
    simp only [e2] at r9
    refine ⟨h9,h10,h11,h12,z1,r9,z3,z5,z7,fun T hT=>?_⟩
    exact hK2 (.slice (h9.next+1) 0 (w'.length+1) (w'.length+1) 2,.slice (h10.next+1) 0 (w'.length+1) (w'.length+1) 1,.slice (h11.next+1) 0 (w'.length+1) (w'.length+1) 1,c+1) T _ (by simp;omega) (by simpa using hT) ⟨_,_,hsn.symm,z8,so2,Blk.kp b7 (z9 _ (by omega) nb1 nb2 nb3),by simp [blkOf];omega,by simp [blkOf];omega,by simp [blkOf];omega,by simp;omega⟩
   clear hK2 hsn so2 hst
   simp [listPut,d0D,d1D,b9D,b10D,sv1,sv2,c1,t0,indexAddrA]
   by_cases hin:q∈w'.map (·.1)
   ·rw [if_pos hin] at lk
    have lk:lookupA ⟨75,true,[.int .i64,.int .i64]⟩ (.int .i64 0) false (.map gb.next) (.agg [.int .i64 q.1,.int .i64 q.2]) h7=some (.int .i64 1):=lk
    have sk:=skip (.inr hin)
    by_cases hp1:q.1 < 0
    ·have e1:decide (q.1 < 0)=true:=decide_eq_true hp1
     simp only [e1]
     simp [t1',indexAddrA]
     by_cases hp2:q.2 < 0
     ·have e2'':decide (q.2 < 0)=true:=decide_eq_true hp2
      simp only [e2'']
      simp [wr]
      exact sk _ (by simp)
     ·have e2'':decide (q.2 < 0)=false:=decide_eq_false hp2
      simp only [e2'']
      simp [r7,lk,wr]
      exact sk _ (by simp)
    ·have e1:decide (q.1 < 0)=false:=decide_eq_false hp1
     simp only [e1]
     simp [r7,lk,wr]
     exact sk _ (by simp)
   ·rw [if_neg hin] at lk
    have lk:lookupA ⟨75,true,[.int .i64,.int .i64]⟩ (.int .i64 0) false (.map gb.next) (.agg [.int .i64 q.1,.int .i64 q.2]) h7=some (.int .i64 0):=lk
    by_cases hp1:q.1 < 0
    ·have e1:decide (q.1 < 0)=true:=decide_eq_true hp1
     simp only [e1]
     simp [t1',indexAddrA]
     by_cases hp2:q.2 < 0
     ·have e2'':decide (q.2 < 0)=true:=decide_eq_true hp2
      have sk:=skip (.inl ⟨hp1,hp2⟩)
      simp only [e2'']
      simp [wr]
      exact sk _ (by simp)
     ·have e2'':decide (q.2 < 0)=false:=decide_eq_false hp2
      obtain ⟨h9,h10,h11,h12,z1,z2,z3,z4,z5,z6⟩:=more fun h=>h.elim (fun h=>hp2 h.2) hin
      simp only [e2'']
      simp [r7,lk,wr,listPut,z1,z2,z3,z4,z5]
      exact z6 _ (by simp)
    ·have e1:decide (q.1 < 0)=false:=decide_eq_false hp1
     obtain ⟨h9,h10,h11,h12,z1,z2,z3,z4,z5,z6⟩:=more fun h=>h.elim (fun h=>hp1 h.1) hin
     simp only [e1]
     simp [r7,lk,wr,listPut,z1,z2,z3,z4,z5]
     exact z6 _ (by simp)
  ·have:c=A.letters.length:=by omega
   subst this
   have wr:wrapF .i64 ((n:Int)+1)=(n:Int)+1:=wrap64 (by omega) (by omega)
   simp [wr]
   have hle:=(rowSS_get (R:=R) (R':=R') (n:=n) (List.range A.letters.length) hd).2
   refine hK (pv,fv,bv,n+1) _ _ (by simp;omega) (by simp) ⟨w',mp',C6,so',by simp only;rw [hw'];omega,?_⟩
   rw [hw'];exact hrun'
end Go.Ab.Z
namespace Go.Ab.Z
open Go Go.Ab
variable {h h':AHeap} {k:Post} {fe le en mo en' mo':AVal} {A:PAlpha} {X Y:PAuto}
theorem flat_get {a:PT AVal} {sz:Nat}:∀ (ls:List (List AVal)) (off:Nat),(∀ l∈ls,l.length=sz)->(∀ i l,ls[i]?=some l->∀ f c,l[f]?=some c->a.get (path (off+i*sz+f))=some c)->∀ j c,ls.flatten[j]?=some c->a.get (path (off+j))=some c
 | [],_,_,_,j,c,h=>by simp at h
 | l :: ls,off,hs,hg,j,c,h=>by
  have hl:=hs l (by simp)
  rw [List.flatten_cons] at h
  by_cases hj:j < l.length
  ·rw [List.getElem?_append_left hj] at h
   have:=hg 0 l rfl j c h
   simpa using this
  ·rw [List.getElem?_append_right (by omega)] at h
   have:=flat_get ls (off+sz) (fun x hx=>hs x (by simp [hx])) (fun i x hx f c hc=>by
    have:=hg (i+1) x (by simpa using hx) f c hc
    rw [Nat.succ_mul] at this
    rw [<-this];congr 2;omega) (j - l.length) c h
   rw [<-this];congr 2;omega
theorem flat_len {sz:Nat}:∀ ls:List (List AVal),(∀ l∈ls,l.length=sz)->ls.flatten.length=ls.length*sz
 | [],_=>by simp
 | l :: ls,h=>by
  rw [List.flatten_cons,List.length_append,flat_len ls fun x hx=>h x (by simp [hx]),h l (by simp),List.length_cons,Nat.succ_mul];omega
theorem row_more {sz:Nat} {v:AVal} {ls:List (List AVal)} (r:Row h sz v ls):more h sz v=some (ls.length,ls.flatten):=by
 obtain ⟨hs,⟨rfl,rfl⟩ | ⟨b,off,cap,rfl,_,n,a,m,g,hn,q⟩⟩:=r
 ·rfl
 ·have rd:h.read b off (ls.length*sz)=some ls.flatten:=by
   unfold AHeap.read
   rw [g]
   simp only [ob_some,onCells_c,nble,hn,decide_true,bi_true]
   exact readCells_of _ _ _ (flat_len ls hs) fun j c hc=>flat_get ls off hs q j c hc
  show bi (Nat.beq sz sz) (ob (h.read b off (ls.length*sz)) fun l=>some (ls.length,l)) none=_
  rw [rd];simp
theorem append_copy {sz n:Nat} {x:AVal} {new:List AVal} (w:WF h) (hm:more h sz x=some (n,new)) (hl:new.length=n*sz) (hn:n<=67108864) (ho:allOne new=true) :
  ∃ v h',appendA h sz .nils x=some (some v,h')/\ORow h' sz v n new/\WF h'/\Hle h h'/\∀ j∈blkOf v,h.next<=j:=by
 by_cases h0:n=0
 ·subst h0
  have:new=[]:=List.length_eq_zero_iff.1 (by simpa using hl)
  subst this
  refine ⟨.nils,h,?_,ORow.nil _ _,w,Hle.refl _,fun j hj=>by cases hj⟩
  unfold appendA
  rw [hm];rfl
 ·obtain ⟨h',a1,a2,a3,a4⟩:=(ORow.nil h sz).append w hm hl (by omega) (by omega) ho
  simp only [Nat.zero_add,List.nil_append] at a1 a2
  refine ⟨_,h',a1,a2,a3,⟨by rw [a4.next];omega,fun b y e=>by rw [a4.get b (w.lt e) (.inl rfl)];exact e⟩,fun j hj=>by simp [blkOf] at hj;omega⟩
theorem allOne_ints (l:List Int):allOne (l.map vI)=true:=by rw [allOne_iff];intro x hx;obtain ⟨w,_,rfl⟩:=List.mem_map.1 hx;rfl
theorem allOne_moves (l:List PMove):allOne (l.map PMove.cells).flatten=true:=by
 rw [allOne_iff];intro x hx
 obtain ⟨c,hc,hx⟩:=List.mem_flatten.1 hx
 obtain ⟨m,_,rfl⟩:=List.mem_map.1 hc
 simp at hx
 rcases hx with rfl | rfl | rfl<;>rfl
theorem moves_len (l:List PMove):(l.map PMove.cells).flatten.length=l.length*3:=by
 have:=flat_len (sz:=3) (l.map PMove.cells) (by intro x hx;obtain ⟨c,_,rfl⟩:=List.mem_map.1 hx;rfl)
 simpa using this
theorem f44 (hX:IsAuto h en mo X) (H:∀ h' ye ym,WF h'->Hle h h'->OwnAuto h h' ye ym X->k (aV X.states ye ym) h'):Cf 44 [aV X.states en mo] h k:=by
 refine use_code compiled44 fun hw=>?_
 have w1:=hw.newCells [.int .i64 X.states,en,mo]
 have le1:=Hle.newCells hw [.int .i64 X.states,en,mo]
 have w2:=w1.newCells [.int .i64 0,.nils,.nils]
 have le2:=Hle.newCells w1 [.int .i64 0,.nils,.nils]
 have v1:=(Blk.new h [.int .i64 X.states,en,mo]).mono le2
 have v2:=Blk.new (h.newCells [.int .i64 X.states,en,mo]) [.int .i64 0,.nils,.nils]
 simp only [next_newCells] at v2
 have r0:=v1.rd1 (i:=0) (c:=.int .i64 X.states) rfl
 generalize hg0:(h.newCells [.int .i64 X.states,en,mo]).newCells [.int .i64 0,.nils,.nils]=g0 at *
 have gn:g0.next=h.next+2:=by rw [<-hg0];simp
 have leh:=le1.trans le2
 have w3:=w2.newCells [.int .i64 0,.nils,.nils]
 have le3:=Hle.newCells w2 [.int .i64 0,.nils,.nils]
 obtain ⟨g1,a1,a2,a3⟩:=(Blk.new g0 [.int .i64 0,.nils,.nils]).write (off:=0) (vs:=[.int .i64 X.states,.nils,.nils]) (by simp) rfl
 have a2:Blk g1 g0.next [.int .i64 X.states,.nils,.nils]:=by simpa using a2
 have l1:=a3.hle le3 w2 (Nat.le_refl _)
 have wg1:=a3.wf w3 (by simp)
 have n1:=a2.rd1 (i:=1) (c:=.nils) rfl
 have x1:=(v1.mono l1).rd1 (i:=1) (c:=en) rfl
 have hX1:=hX.mono (leh.trans l1)
 have m1:=row_more hX1.en
 have fl:((X.ends.map vI).map fun c=>[c]).flatten=X.ends.map vI:=by
  generalize X.ends.map vI=l
  induction l with
  | nil=>rfl
  | cons c l ih=>simp only [List.map_cons,List.flatten_cons,ih];rfl
 rw [fl] at m1
 simp only [List.length_map] at m1
 have hne:=hX.ne
 have hnm:=hX.nm
 obtain ⟨e1,g2,b1,b2,b3,b4,b5⟩:=append_copy wg1 m1 (by simp) (by omega) (allOne_ints _)
 have a2':=a2.mono b4
 obtain ⟨g3,c1,c2,c3⟩:=a2'.write1 (i:=1) (c:=e1) (by simp) b2.one
 have c2:Blk g3 g0.next [.int .i64 X.states,e1,.nils]:=by simpa using c2
 have l2:=l1.trans b4
 have l3:=c3.hle l2 w2 (Nat.le_refl _)
 have g0l:g0.next < g1.next:=a2.lt wg1
 have wg3:=c3.wf b3 (by have:=b4.next;omega)
 have n2:=c2.rd1 (i:=2) (c:=.nils) rfl
 have x2:=(v1.mono l3).rd1 (i:=2) (c:=mo) rfl
 have hX3:=hX.mono (leh.trans l3)
 have m2:=row_more hX3.mo
 simp only [List.length_map] at m2
 obtain ⟨e2,g4,d1,d2,d3,d4,d5⟩:=append_copy wg3 m2 (moves_len _) (by omega) (allOne_moves _)
 have c2':=c2.mono d4
 obtain ⟨g5,f1,f2,f3⟩:=c2'.write1 (i:=2) (c:=e2) (by simp) d2.one
 have f2:Blk g5 g0.next [.int .i64 X.states,e1,e2]:=by simpa using f2
 have l4:=l3.trans d4
 have l5:=f3.hle l4 w2 (Nat.le_refl _)
 have wg5:=f3.wf d3 (by have:=d4.next;have:=c3.next;have:=b4.next;omega)
 have r5:=f2.rd (off:=0) (n:=3) (l:=[.int .i64 X.states,e1,e2]) (by simp) rfl
 obtain ⟨g6,y1,y2,y3⟩:=(v2.mono l5).write (off:=0) (vs:=[.int .i64 X.states,e1,e2]) (by simp) (one3 rfl b2.one d2.one)
 have y2:Blk g6 (h.next+1) [.int .i64 X.states,e1,e2]:=by simpa using y2
 have r6:=y2.rd (off:=0) (n:=3) (l:=[.int .i64 X.states,e1,e2]) (by simp) rfl
 have b2c:=b2.cells
 have d2c:=d2.cells
 have r0':(g0.newCells [.int .i64 0,.nils,.nils]).read1 h.next 0=some (.int .i64 X.states):=(v1.mono le3).rd1 (i:=0) rfl
 have gn2:h.next+1+1=g0.next:=by omega
 simp [fn44,aV]
 rw [hg0]
 simp [r0,gn2,listPut,a1,n1,x1,b1,c1,b2c,n2,x2,d1,f1,d2c,r5,y1,r6]
 intro w
 have bn:=b4.next
 have cn:=c3.next
 have dn:=d4.next
 have ol1:=own_lt b2 b3
 have k1:∀ j∈blkOf e1,Kp g2 g6 j:=fun j hj=>Kp.trans (But.kp c3 (by have:=b5 j hj;omega)) (Kp.trans (Hle.kp d4 j) (Kp.trans (But.kp f3 (by have:=b5 j hj;omega)) (But.kp y3 (by have:=b5 j hj;omega))))
 have k2:∀ j∈blkOf e2,Kp g4 g6 j:=fun j hj=>Kp.trans (But.kp f3 (by have:=d5 j hj;omega)) (But.kp y3 (by have:=d5 j hj;omega))
 exact H g6 e1 e2 w (y3.hle (leh.trans l5) hw (by omega)) ⟨own_kp b2 k1,own_kp d2 k2,fun j hj=>by have:=b5 j hj;omega,fun j hj=>⟨by have:=d5 j hj;omega,fun hj'=>by have:=ol1 j hj';have:=d5 j hj;omega⟩⟩
end Go.Ab.Z
