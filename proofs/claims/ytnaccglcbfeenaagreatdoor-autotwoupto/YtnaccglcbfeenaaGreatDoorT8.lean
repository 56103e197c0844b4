/- PROVED HERE: the card of AutoTwo in its second form (Rows.AutoTwoUptoCardSaid): for every alphabet and every two automata that hold together at most 1048576 values and letters, the law AutoTwo returns true, and each argument reads afterwards as it read before. Conditions: those of the given row alone (the bound; the two listed tables as they are laid). Laid by program (pack.py) out of the texts in wip/, remarks left out. -/
import Derived.Test.YtnaccglcbfeenaaGreatDoorT7
import Derived.Deep.Slices
import Derived.Deep.Strs
import Derived.Test.YtnaccglcbfeenaaGreatDoorRows
import Derived.OpenShut
import Derived.ProofKit
import Derived.Test.YtnaccglcbfeenaaGreatDoorCards
import Derived.Test.YtnaccglcbfeenaaGreatDoorTie
import Derived.WalkKit
import Derived.Carry
import Derived.Deep.DeepHandedRow
import Derived.Lib.LaidTab
set_option linter.unusedSimpArgs false
set_option linter.unusedVariables false
set_option maxHeartbeats 1000000
namespace Go.Ab.Z
open Go Go.Ab
variable {h h':AHeap} {k:Post} {fe le en mo en' mo':AVal} {A:PAlpha} {X Y:PAuto}
def mark77:PMove:=⟨77,0,0⟩
def Lent (h:AHeap) (ye ym:AVal) (X:PAuto):Prop:=∃ b1 b2,ye=.slice b1 0 X.ends.length (X.ends.length+1) 1/\ym=.slice b2 0 X.moves.length (X.moves.length+1) 3 /\
 ORow h 1 (.slice b1 0 (X.ends.length+1) (X.ends.length+1) 1) (X.ends.length+1) (X.ends.map vI++[vI 77])/\ORow h 3 (.slice b2 0 (X.moves.length+1) (X.moves.length+1) 3) (X.moves.length+1) ((X.moves.map PMove.cells).flatten++mark77.cells)
theorem Lent.mono (l:Lent h en mo X) (k:Hle h h'):Lent h' en mo X:=by
 obtain ⟨b1,b2,e1,e2,o1,o2⟩:=l
 exact ⟨b1,b2,e1,e2,o1.mono k,o2.mono k⟩
theorem orow_prefix {sz n:Nat} {b:Nat} {cs new:List AVal} (o:ORow h sz (.slice b 0 (n+1) (n+1) sz) (n+1) (cs++new)) (hl:cs.length=n*sz):ORow h sz (.slice b 0 n (n+1) sz) n cs:=by
 obtain ⟨_,⟨e,_⟩ | ⟨b',cap,rest,e,hc,r⟩⟩:=o
 ·cases e
 ·cases e
  exact ⟨hl,.inr ⟨b,n+1,new++rest,rfl,by omega,by rw [<-List.append_assoc];exact r⟩⟩
theorem Lent.is (l:Lent h en mo X) (hX:IsAuto h' en' mo' X):IsAuto h en mo X:=by
 obtain ⟨b1,b2,rfl,rfl,o1,o2⟩:=l
 exact ⟨(orow_prefix o1 (by simp)).row1,(orow_prefix o2 (moves_len _)).row (by intro l hl;obtain ⟨x,_,rfl⟩:=List.mem_map.1 hl;rfl) (by simp) rfl,hX.ne,hX.nm,hX.ok⟩
theorem f11 (hX:IsAuto h en mo X) (hne:X.ends.length<=1048576) (hnm:X.moves.length<=1048576) (H:∀ h' ye ym,WF h'->Hle h h'->Lent h' ye ym X->k (aV X.states ye ym) h'):Cf 11 [aV X.states en mo] h k:=by
 refine use_code compiled11 fun hw=>?_
 have w1:=hw.newCells [.int .i64 X.states,en,mo]
 have le1:=Hle.newCells hw [.int .i64 X.states,en,mo]
 have w2:=w1.newCells [.int .i64 0,.nils,.nils]
 have le2:=Hle.newCells w1 [.int .i64 0,.nils,.nils]
 have v1:=(Blk.new h [.int .i64 X.states,en,mo]).mono le2
 have v2:=Blk.new (h.newCells [.int .i64 X.states,en,mo]) [.int .i64 0,.nils,.nils]
 simp only [next_newCells] at v2
 have r0:=v1.rd (off:=0) (n:=3) (l:=[.int .i64 X.states,en,mo]) (by simp) rfl
 simp [fn11,aV,r0]
 generalize hg0:(h.newCells [.int .i64 X.states,en,mo]).newCells [.int .i64 0,.nils,.nils]=g0 at *
 have gn:g0.next=h.next+2:=by rw [<-hg0];simp
 have leh:=le1.trans le2
 refine f44 (hX.mono leh) fun g1 ye ym wg1 l1 oy=>?_
 have w3:=wg1.newCells [.int .i64 0,.nils,.nils]
 have le3:=Hle.newCells wg1 [.int .i64 0,.nils,.nils]
 obtain ⟨g2,a1,a2,a3⟩:=(Blk.new g1 [.int .i64 0,.nils,.nils]).write (off:=0) (vs:=[.int .i64 X.states,ye,ym]) (by simp) (one3 rfl oy.oe.one oy.om.one)
 have a2:Blk g2 g1.next [.int .i64 X.states,ye,ym]:=by simpa using a2
 have l2:=a3.hle le3 wg1 (Nat.le_refl _)
 have wg2:=a3.wf w3 (by simp)
 have n2:g2.next=g1.next+1:=by rw [a3.next];simp
 have y1:=a2.rd1 (i:=1) (c:=ye) rfl
 have oe2:=oy.oe.mono l2
 have om2:=oy.om.mono l2
 have eln:=own_lt oy.oe wg1
 have mln:=own_lt oy.om wg1
 obtain ⟨g3,b1,b2,b3,b4,K23⟩:=orow_push oe2 wg2 [vI 77] rfl (by omega) rfl
 have b1:appendA (g2.newCells [.int .i64 77]) 1 ye (.slice g2.next 0 1 1 1)=some (some (.slice (g2.next+1) 0 (X.ends.length+1) (X.ends.length+1) 1),g3):=b1
 have nye:g1.next∉blkOf ye:=fun hj=>by have:=eln _ hj;omega
 have nym:g1.next∉blkOf ym:=fun hj=>by have:=mln _ hj;omega
 have a2':=Blk.kp a2 (K23 _ nye)
 obtain ⟨g4,c1,c2,c3⟩:=a2'.write1 (i:=1) (c:=.slice (g2.next+1) 0 (X.ends.length+1) (X.ends.length+1) 1) (by simp) rfl
 have c2:Blk g4 g1.next [.int .i64 X.states,.slice (g2.next+1) 0 (X.ends.length+1) (X.ends.length+1) 1,ym]:=by simpa using c2
 have wg4:=c3.wf b3 (by omega)
 have n4:g4.next=g2.next+2:=by rw [c3.next];exact b4
 have K34:∀ j,j≠g1.next->Kp g3 g4 j:=fun j hj=>But.kp c3 hj
 have y2:=c2.rd1 (i:=2) (c:=ym) rfl
 have om4:=own_kp om2 fun j hj=>Kp.trans (K23 j fun e=>(oy.go j hj).2 e) (K34 j fun e=>nym (e ▸ hj))
 obtain ⟨g5,d1,d2,d3,d4,K45⟩:=orow_push om4 wg4 mark77.cells rfl (by omega) rfl
 have d1:appendA (g4.newCells [.int .i64 77,.int .i64 0,.int .i32 0]) 3 ym (.slice g4.next 0 1 1 3)=some (some (.slice (g4.next+1) 0 (X.moves.length+1) (X.moves.length+1) 3),g5):=d1
 have c2':=Blk.kp c2 (K45 _ nym)
 obtain ⟨g6,e1,e2,e3⟩:=c2'.write1 (i:=2) (c:=.slice (g4.next+1) 0 (X.moves.length+1) (X.moves.length+1) 3) (by simp) rfl
 have e2:Blk g6 g1.next [.int .i64 X.states,.slice (g2.next+1) 0 (X.ends.length+1) (X.ends.length+1) 1,.slice (g4.next+1) 0 (X.moves.length+1) (X.moves.length+1) 3]:=by simpa using e2
 have wg6:=e3.wf d3 (by omega)
 have z1:=e2.rd1 (i:=1) (c:=.slice (g2.next+1) 0 (X.ends.length+1) (X.ends.length+1) 1) rfl
 have K06:∀ j,j < g0.next->Kp g0 g6 j:=fun j hj=>by
  have h1:j∉blkOf ye:=fun e=>by have:=oy.ge j e;omega
  have h2:j∉blkOf ym:=fun e=>by have:=(oy.go j e).1;omega
  have h3:j≠g1.next:=by have:=l1.next;omega
  exact Kp.trans (Hle.kp (l1.trans l2) j) (Kp.trans (K23 j h1) (Kp.trans (K34 j h3) (Kp.trans (K45 j h2) (But.kp e3 h3))))
 have x1:=(Blk.kp v1 (K06 _ (by omega))).rd1 (i:=1) (c:=en) rfl
 have el:=hX.en.len
 have ml:=hX.mo.len
 simp only [List.length_map] at el ml
 have cu1:cutA (g2.next+1) 0 (X.ends.length+1) (X.ends.length+1) 1 none (some (.int .i64 (X.ends.length:Int))) none=some (.slice (g2.next+1) 0 X.ends.length (X.ends.length+1) 1):=cut_hi (by omega)
 have cu2:cutA (g4.next+1) 0 (X.moves.length+1) (X.moves.length+1) 3 none (some (.int .i64 (X.moves.length:Int))) none=some (.slice (g4.next+1) 0 X.moves.length (X.moves.length+1) 3):=cut_hi (by omega)
 obtain ⟨g7,f1,f2,f3⟩:=e2.write1 (i:=1) (c:=.slice (g2.next+1) 0 X.ends.length (X.ends.length+1) 1) (by simp) rfl
 have f2:Blk g7 g1.next [.int .i64 X.states,.slice (g2.next+1) 0 X.ends.length (X.ends.length+1) 1,.slice (g4.next+1) 0 (X.moves.length+1) (X.moves.length+1) 3]:=by simpa using f2
 have z2:=f2.rd1 (i:=2) (c:=.slice (g4.next+1) 0 (X.moves.length+1) (X.moves.length+1) 3) rfl
 have g1n:=l1.next
 have x2:=(Blk.kp v1 (Kp.trans (K06 _ (by omega)) (But.kp f3 (by omega)))).rd1 (i:=2) (c:=mo) rfl
 obtain ⟨g8,p1,p2,p3⟩:=f2.write1 (i:=2) (c:=.slice (g4.next+1) 0 X.moves.length (X.moves.length+1) 3) (by simp) rfl
 have p2:Blk g8 g1.next [.int .i64 X.states,.slice (g2.next+1) 0 X.ends.length (X.ends.length+1) 1,.slice (g4.next+1) 0 X.moves.length (X.moves.length+1) 3]:=by simpa using p2
 have r8:=p2.rd (off:=0) (n:=3) (l:=[.int .i64 X.states,.slice (g2.next+1) 0 X.ends.length (X.ends.length+1) 1,.slice (g4.next+1) 0 X.moves.length (X.moves.length+1) 3]) (by simp) rfl
 have K08:∀ j,j < g0.next->Kp g0 g8 j:=fun j hj=>Kp.trans (K06 j hj) (Kp.trans (But.kp f3 (by omega)) (But.kp p3 (by omega)))
 obtain ⟨g9,s1,s2,s3⟩:=(Blk.kp v2 (K08 _ (by omega))).write (off:=0) (vs:=[.int .i64 X.states,.slice (g2.next+1) 0 X.ends.length (X.ends.length+1) 1,.slice (g4.next+1) 0 X.moves.length (X.moves.length+1) 3]) (by simp) rfl
 have s2:Blk g9 (h.next+1) [.int .i64 X.states,.slice (g2.next+1) 0 X.ends.length (X.ends.length+1) 1,.slice (g4.next+1) 0 X.moves.length (X.moves.length+1) 3]:=by simpa using s2
 have r9:=s2.rd (off:=0) (n:=3) (l:=[.int .i64 X.states,.slice (g2.next+1) 0 X.ends.length (X.ends.length+1) 1,.slice (g4.next+1) 0 X.moves.length (X.moves.length+1) 3]) (by simp) rfl
 simp [aV,a1,y1,listPut,b1,c1,y2,d1,e1,z1,x1,el,cu1,f1,z2,x2,ml,cu2,p1,r8,s1,r9]
 intro w
 have n5:g5.next=g4.next+2:=d4
 have K69:∀ j,j≠g1.next->j≠h.next+1->Kp g6 g9 j:=fun j h1 h2=>Kp.trans (But.kp f3 h1) (Kp.trans (But.kp p3 h1) (But.kp s3 h2))
 refine H g9 _ _ w ⟨?_,fun j y e=>?_⟩ ⟨g2.next+1,g4.next+1,rfl,rfl,?_,?_⟩
 ·rw [s3.next,p3.next,f3.next,e3.next];omega
 ·have jl:=hw.lt e
  exact Kp.trans (K08 j (by omega)) (But.kp s3 (by omega)) y (leh.get j y e)
 ·refine own_kp b2 fun j hj=>?_
  simp [blkOf] at hj;subst hj
  exact Kp.trans (K34 _ (by omega)) (Kp.trans (K45 _ fun e=>by have:=mln _ e;omega) (Kp.trans (But.kp e3 (by omega)) (K69 _ (by omega) (by omega))))
 ·refine own_kp d2 fun j hj=>?_
  simp [blkOf] at hj;subst hj
  exact Kp.trans (But.kp e3 (by omega)) (K69 _ (by omega) (by omega))
theorem f20 (hX:IsAuto h en mo X) (hne:X.ends.length<=1048576) (hnm:X.moves.length<=1048576) {ye ym:AVal} (l:Lent h ye ym X) (H:∀ h',WF h'->Hle h h'->k (.bool true) h'):Cf 20 [aV X.states ye ym,aV X.states en mo] h k:=by
 refine use_code compiled20 fun hw=>?_
 have hY:=l.is hX
 obtain ⟨b1,b2,rfl,rfl,o1,o2⟩:=l
 generalize hye:(.slice b1 0 X.ends.length (X.ends.length+1) 1:AVal)=ye at *
 generalize hym:(.slice b2 0 X.moves.length (X.moves.length+1) 3:AVal)=ym at *
 have w1:=hw.newCells [.int .i64 X.states,ye,ym]
 have le1:=Hle.newCells hw [.int .i64 X.states,ye,ym]
 have w2:=w1.newCells [.int .i64 X.states,en,mo]
 have le2:=Hle.newCells w1 [.int .i64 X.states,en,mo]
 have v1:=(Blk.new h [.int .i64 X.states,ye,ym]).mono le2
 have v2:=Blk.new (h.newCells [.int .i64 X.states,ye,ym]) [.int .i64 X.states,en,mo]
 simp only [next_newCells] at v2
 have r1:=v1.rd (off:=0) (n:=3) (l:=[.int .i64 X.states,ye,ym]) (by simp) rfl
 have r2:=v2.rd (off:=0) (n:=3) (l:=[.int .i64 X.states,en,mo]) (by simp) rfl
 simp [fn20,aV,r1,r2]
 generalize hg0:(h.newCells [.int .i64 X.states,ye,ym]).newCells [.int .i64 X.states,en,mo]=g0 at *
 have leh:=le1.trans le2
 refine f18 (hY.mono leh) (hX.mono leh) fun g1 wg1 l1=>?_
 have y1:=(v1.mono l1).rd1 (i:=1) (c:=ye) rfl
 have y2:=(v1.mono l1).rd1 (i:=2) (c:=ym) rfl
 have x1:=(v2.mono l1).rd1 (i:=1) (c:=en) rfl
 have x2:=(v2.mono l1).rd1 (i:=2) (c:=mo) rfl
 have el:=hX.en.len
 have ml:=hX.mo.len
 simp only [List.length_map] at el ml
 have wr1:wrapF .i64 ((X.ends.length:Int)+1)=((X.ends.length+1:Nat):Int):=by rw [wrap64 (by omega) (by omega)];omega
 have wr2:wrapF .i64 ((X.moves.length:Int)+1)=((X.moves.length+1:Nat):Int):=by rw [wrap64 (by omega) (by omega)];omega
 have cu1:∀ g,sliceA (.row 1) ye none (some (.int .i64 ((X.ends.length+1:Nat):Int))) none g=some (.slice b1 0 (X.ends.length+1) (X.ends.length+1) 1):=fun g=>by rw [<-hye,sliceA_row];exact cut_hi (by omega)
 have cu2:∀ g,sliceA (.row 3) ym none (some (.int .i64 ((X.moves.length+1:Nat):Int))) none g=some (.slice b2 0 (X.moves.length+1) (X.moves.length+1) 3):=fun g=>by rw [<-hym,sliceA_row];exact cut_hi (by omega)
 have p1:=o1.mono (leh.trans l1)
 have p2:=o2.mono (leh.trans l1)
 obtain ⟨i1,i2⟩:=orow_at p1 (i:=X.ends.length) (by omega) (c:=vI 77) (by rw [List.getElem?_append_right (by simp)];simp) rfl
 have j1:=p2.idx (i:=X.moves.length) (by omega) .i64
 have rr:Row g1 3 (.slice b2 0 (X.moves.length+1) (X.moves.length+1) 3) ((X.moves++[mark77]).map PMove.cells):=p2.row (by intro l hl;obtain ⟨x,_,rfl⟩:=List.mem_map.1 hl;rfl) (by simp) (by simp)
 have j2:=rr.rd1_0 (i:=X.moves.length) (l:=mark77.cells) (c:=.int .i64 77) (by rw [List.map_append,List.getElem?_append_right (by simp)];simp) rfl
 simp only [rowB_s,rowO_s,Nat.zero_add] at i1 i2 j1 j2
 simp only [vI] at i2
 simp [y1,x1,el,wr1,cu1,i1,i2,y2,x2,ml,wr2,cu2,j1,j2,-Int.natCast_add]
 exact fun w=>H g1 w (leh.trans l1)
end Go.Ab.Z
namespace Go.Ab.Z
open Go Go.Ab
variable {h h':AHeap} {k:Post} {fe le en mo:AVal} {A:PAlpha} {X Y:PAuto}
structure Wild (h₀ h:AHeap) (b:Nat) (st:Int) (en mo ev mv:AVal) (n m:Nat):Prop where
 wf:WF h
 box:Blk h b [.int .i64 st,ev,mv]
 oe:∃ cs,ORow h 1 ev n cs
 om:∃ cs,ORow h 3 mv m cs
 next:h₀.next<=h.next
 kp:∀ j,j < h₀.next->j∉blkOf en->j∉blkOf mo->Kp h₀ h j
 ge:∀ j∈blkOf ev,j≠b
 go:∀ j∈blkOf mv,j≠b/\j∉blkOf ev
 we:∀ j∈blkOf ev,j∈blkOf en\/h₀.next<=j
 wm:∀ j∈blkOf mv,j∈blkOf mo\/h₀.next<=j
 gb:h₀.next<=b
section
variable {h₀:AHeap} {b n m:Nat} {st:Int} {ev mv:AVal}
theorem Wild.setE (W:Wild h₀ h b st en mo ev mv n m) {i:Nat} (hi:i < n) (x:Int):∃ h',indexAddrS 1 ev (.int .i64 (i:Int))=some (.ptr (rowB ev) i)/\h.write (rowB ev) i [.int .i64 x]=some h'/\Wild h₀ h' b st en mo ev mv n m:=by
 obtain ⟨cs,o⟩:=W.oe
 have i1:=o.idx hi .i64
 rw [Nat.mul_one] at i1
 obtain ⟨h2,a1,a2,a3⟩:=o.write1 (i:=i) (c:=.int .i64 x) hi rfl
 have hr:=rowB_mem o (by omega)
 have hl:=own_lt o W.wf _ hr
 obtain ⟨cm,om⟩:=W.om
 refine ⟨h2,i1,a1,⟨a3.wf W.wf hl,Blk.kp W.box (But.kp a3 fun e=>W.ge _ hr e.symm),⟨_,a2⟩,⟨cm,own_kp om fun j hj=>But.kp a3 fun e=>(W.go j hj).2 (e ▸ hr)⟩,by rw [a3.next];exact W.next,fun j h1 h2 h3=>Kp.trans (W.kp j h1 h2 h3) (But.kp a3 fun e=>?_),W.ge,W.go,W.we,W.wm,W.gb⟩⟩
 rcases W.we _ hr with h4 | h4
 ·exact h2 (e ▸ h4)
 ·omega
theorem Wild.setM (W:Wild h₀ h b st en mo ev mv n m) {i:Nat} (hi:i < m) (x:Int):∃ h',indexAddrS 3 mv (.int .i64 (i:Int))=some (.ptr (rowB mv) (i*3))/\h.write (rowB mv) (i*3+1) [.int .i64 x]=some h'/\Wild h₀ h' b st en mo ev mv n m:=by
 obtain ⟨cs,o⟩:=W.om
 have i1:=o.idx hi .i64
 obtain ⟨rest,bb⟩:=o.blk (by omega)
 have hlen:=o.1
 obtain ⟨h2,a1,a2,a3⟩:=bb.write1 (i:=i*3+1) (c:=.int .i64 x) (by rw [List.length_append];omega) rfl
 have hr:=rowB_mem o (by omega)
 have hl:=own_lt o W.wf _ hr
 obtain ⟨ce,oe⟩:=W.oe
 have o2:ORow h2 3 mv m (cs.set (i*3+1) (.int .i64 x)):=by
  obtain ⟨_,⟨_,e⟩ | ⟨b',cap,rest',rfl,hc,r⟩⟩:=o
  ·omega
  ·obtain ⟨h2',a1',a2',a3'⟩:=r.write1 (i:=i*3+1) (c:=.int .i64 x) (by rw [List.length_append];omega) rfl
   simp only [rowB_s] at a1
   rw [a1] at a1'
   cases a1'
   rw [List.set_append_left _ _ (by omega)] at a2'
   exact ⟨by simpa using hlen,.inr ⟨b',cap,rest',rfl,hc,a2'⟩⟩
 refine ⟨h2,i1,a1,⟨a3.wf W.wf hl,Blk.kp W.box (But.kp a3 fun e=>(W.go _ hr).1 e.symm),⟨ce,own_kp oe fun j hj=>But.kp a3 fun e=>(W.go _ hr).2 (e ▸ hj)⟩,⟨_,o2⟩,by rw [a3.next];exact W.next,fun j h1 h2 h3=>Kp.trans (W.kp j h1 h2 h3) (But.kp a3 fun e=>?_),W.ge,W.go,W.we,W.wm,W.gb⟩⟩
 rcases W.wm _ hr with h4 | h4
 ·exact h3 (e ▸ h4)
 ·omega
theorem Wild.growE (W:Wild h₀ h b st en mo ev mv n m) (x:Int) (hn:n < 60000000):∃ h2 h3 v,appendA (h.newCells [.int .i64 x]) 1 ev (.slice h.next 0 1 1 1)=some (some v,h2)/\oneA v=true/\v.cells=[v]/\h2.write b 1 [v]=some h3/\Wild h₀ h3 b st en mo v mv (n+1) m:=by
 obtain ⟨cs,o⟩:=W.oe
 obtain ⟨cm,om⟩:=W.om
 obtain ⟨h2,a1,a2,a3,a4,K⟩:=orow_push o W.wf [vI x] rfl (by omega) rfl
 have hbl:=W.box.lt W.wf
 have hnx:=W.next
 have nb:b∉blkOf ev:=fun e=>W.ge b e rfl
 obtain ⟨h3,c1,c2,c3⟩:=(Blk.kp W.box (K b nb)).write1 (i:=1) (c:=.slice (h.next+1) 0 (n+1) (n+1) 1) (by simp) rfl
 have ml:=own_lt om W.wf
 refine ⟨h2,h3,_,a1,rfl,rfl,c1,⟨c3.wf a3 (by omega),by simpa using c2,⟨_,own_kp a2 fun j hj=>But.kp c3 (by simp [blkOf] at hj;omega)⟩,⟨cm,own_kp om fun j hj=>Kp.trans (K j (W.go j hj).2) (But.kp c3 (W.go j hj).1)⟩,by rw [c3.next];omega,fun j h1 h2 h3=>Kp.trans (W.kp j h1 h2 h3) (Kp.trans (K j fun e=>?_) (But.kp c3 (by have:=W.gb;omega))),fun j hj=>?_,fun j hj=>⟨(W.go j hj).1,?_⟩,fun j hj=>?_,W.wm,W.gb⟩⟩
 ·rcases W.we j e with h4 | h4
  ·exact h2 h4
  ·omega
 ·simp [blkOf] at hj;omega
 ·have:=ml j hj;simp [blkOf];omega
 ·simp [blkOf] at hj;exact .inr (by omega)
theorem Wild.growM (W:Wild h₀ h b st en mo ev mv n m) (x:Int) (hm:m < 60000000):∃ h2 h3 v,appendA (h.newCells [.int .i64 x,.int .i64 0,.int .i32 0]) 3 mv (.slice h.next 0 1 1 3)=some (some v,h2)/\oneA v=true/\v.cells=[v]/\h2.write b 2 [v]=some h3/\Wild h₀ h3 b st en mo ev v n (m+1):=by
 obtain ⟨cs,o⟩:=W.om
 obtain ⟨ce,oe⟩:=W.oe
 obtain ⟨h2,a1,a2,a3,a4,K⟩:=orow_push o W.wf [.int .i64 x,.int .i64 0,.int .i32 0] rfl (by omega) rfl
 have hbl:=W.box.lt W.wf
 have hnx:=W.next
 have nb:b∉blkOf mv:=fun e=>(W.go b e).1 rfl
 obtain ⟨h3,c1,c2,c3⟩:=(Blk.kp W.box (K b nb)).write1 (i:=2) (c:=.slice (h.next+1) 0 (m+1) (m+1) 3) (by simp) rfl
 have el:=own_lt oe W.wf
 refine ⟨h2,h3,_,a1,rfl,rfl,c1,⟨c3.wf a3 (by omega),by simpa using c2,⟨ce,own_kp oe fun j hj=>Kp.trans (K j fun e=>(W.go j e).2 hj) (But.kp c3 (W.ge j hj))⟩,⟨_,own_kp a2 fun j hj=>But.kp c3 (by simp [blkOf] at hj;omega)⟩,by rw [c3.next];omega,fun j h1 h2 h3=>Kp.trans (W.kp j h1 h2 h3) (Kp.trans (K j fun e=>?_) (But.kp c3 (by have:=W.gb;omega))),W.ge,fun j hj=>?_,W.we,fun j hj=>?_,W.gb⟩⟩
 ·rcases W.wm j e with h4 | h4
  ·exact h3 h4
  ·omega
 ·simp [blkOf] at hj;subst hj;exact ⟨by omega,fun e=>by have:=el _ e;omega⟩
 ·simp [blkOf] at hj;exact .inr (by omega)
end
theorem f19 {h₀:AHeap} (o:OwnAuto h₀ h en mo X) (hne:X.ends.length<=1100000) (hnm:X.moves.length<=1100000) (H:∀ h',WF h'->h.next<=h'.next->(∀ j,j < h.next->j∉blkOf en->j∉blkOf mo->Kp h h' j)->k (oneOr []) h'):Cf 19 [aV X.states en mo] h k:=by
 refine use_code compiled19 fun hw=>?_
 have w1:=hw.newCells [.int .i64 X.states,en,mo]
 have le1:=Hle.newCells hw [.int .i64 X.states,en,mo]
 have v1:=Blk.new h [.int .i64 X.states,en,mo]
 have el:=own_lt o.oe hw
 have ml:=own_lt o.om hw
 have W0:Wild h (h.newCells [.int .i64 X.states,en,mo]) h.next X.states en mo en mo X.ends.length X.moves.length :=
  ⟨w1,v1,⟨_,o.oe.mono le1⟩,⟨_,o.om.mono le1⟩,by simp,fun j _ _ _=>Hle.kp le1 j,fun j hj=>by have:=el j hj;omega,fun j hj=>⟨by have:=ml j hj;omega,(o.go j hj).2⟩,fun j hj=>.inl hj,fun j hj=>.inl hj,Nat.le_refl _⟩
 simp [fn19,aV]
 generalize h.newCells [.int .i64 X.states,en,mo]=g0 at *
 generalize X.states=st at *
 rw [L19_1]
 refine loop_by (σ:=Nat) (fun i h'=>i<=X.ends.length/\Wild h h' h.next st en mo en mo X.ends.length X.moves.length) (fun i=>[(1,.ptr h.next 0),(2,.int .i64 i)]) (fun i=>X.ends.length - i) 0 (by simp) ?_ ?_
 ·exact ⟨Nat.zero_le _,W0⟩
 rintro i g1 K ⟨hi,W⟩ hK
 have r1:=W.box.rd1 (i:=1) (c:=en) rfl
 obtain ⟨ce,oe⟩:=W.oe
 have eln:=oe.len
 simp [r1,eln]
 refine ap_split (fun hc=>?_) (fun hc=>?_)
 ·have hc:i < X.ends.length:=by omega
  obtain ⟨g2,a1,a2,a3⟩:=W.setE hc (-9)
  have wr:wrapF .i64 ((i:Int)+1)=(i:Int)+1:=wrap64 (by omega) (by omega)
  simp [r1,a1,a2,wr]
  exact hK (i+1) _ _ (by omega) (by simp) ⟨by omega,a3⟩
 simp
 rw [L19_2]
 refine loop_by (σ:=Nat) (fun i h'=>i<=X.moves.length/\Wild h h' h.next st en mo en mo X.ends.length X.moves.length) (fun i=>[(1,.ptr h.next 0),(3,.int .i64 i)]) (fun i=>X.moves.length - i) 0 (by simp) ?_ ?_
 ·exact ⟨Nat.zero_le _,W⟩
 clear W oe eln r1 hK hc hi W0
 rintro i g1 K ⟨hi,W⟩ hK
 have r1:=W.box.rd1 (i:=2) (c:=mo) rfl
 obtain ⟨cm,om⟩:=W.om
 have mln:=om.len
 simp [r1,mln]
 refine ap_split (fun hc=>?_) (fun hc=>?_)
 ·have hc:i < X.moves.length:=by omega
  obtain ⟨g2,a1,a2,a3⟩:=W.setM hc (-9)
  have wr:wrapF .i64 ((i:Int)+1)=(i:Int)+1:=wrap64 (by omega) (by omega)
  simp [r1,a1,a2,wr]
  exact hK (i+1) _ _ (by omega) (by simp) ⟨by omega,a3⟩
 simp
 rw [L19_3]
 refine loop_by (σ:=Nat) (fun i h'=>i<=4/\∃ ev mv,Wild h h' h.next st en mo ev mv (X.ends.length+i) (X.moves.length+i)) (fun i=>[(1,.ptr h.next 0),(4,.int .i64 i)]) (fun i=>4 - i) 0 (by simp) ?_ ?_
 ·exact ⟨Nat.zero_le _,en,mo,W⟩
 clear W om mln r1 hK hc hi
 rintro i g1 K ⟨hi,ev,mv,W⟩ hK
 simp
 refine ap_split (fun hc=>?_) (fun hc=>?_)
 ·have hc:i < 4:=by omega
  have r1:=W.box.rd1 (i:=1) (c:=ev) rfl
  obtain ⟨g2,g3,v,a1,a2,a3,a4,W3⟩:=W.growE (-8) (by omega)
  have r2:=W3.box.rd1 (i:=2) (c:=mv) rfl
  obtain ⟨g4,g5,u,b1,b2,b3,b4,W5⟩:=W3.growM (-8) (by omega)
  have wr:wrapF .i64 ((i:Int)+1)=(i:Int)+1:=wrap64 (by omega) (by omega)
  simp [r1,listPut,a1,a3,a4,r2,b1,b3,b4,wr]
  exact hK (i+1) _ _ (by omega) (by simp) ⟨by omega,v,u,W5⟩
 ·simp
  exact fun w=>H g1 w W.next W.kp
end Go.Ab.Z
namespace Go.Ab
theorem BRel.stay {P:Program} {ρ:Rho} {L:Loc} {w w':World} {b:ABlock} (r:BRel P ρ L w b) (k:∀ B,B < w.heap.size->w'.heap[B]?=w.heap[B]?):BRel P ρ L w' b:=by
 have at_:∀ {B:Nat} {o:Obj},w.heap[B]?=some o->w'.heap[B]?=some o:=fun {B o} h=>by
  rw [k B (by have:=(Array.getElem?_eq_some_iff.1 h).1;exact this)];exact h
 cases b with
 | cells n a m =>
  obtain ⟨c,e,fr,h1,h2⟩:=r
  exact ⟨c,e,fr,at_ h1,h2⟩
 | map kt es clock =>
  obtain ⟨h0,h1,ES,h2,h3⟩:=r
  exact ⟨h0,h1,ES,at_ h2,h3⟩
 | siter pos rest =>
  obtain ⟨h0,S,h2,h3⟩:=r
  exact ⟨h0,S,at_ h2,h3⟩
 | miter m since seen last =>
  obtain ⟨h0,M,h2,h3⟩:=r
  exact ⟨h0,M,at_ h2,h3⟩
theorem cfP_alone {P:Program} {f:FuncId} {h₀:AHeap} {b:Bool} (hz:∀ id,h₀.get id=none) (c:cfP P [] f [] h₀ fun v _=>v=.bool b) {h:AHeap} {k:Post} (H:k (.bool b) h):cfP P [] f [] h k:=by
 refine ⟨c.1,fun ρ w VS sm rel=>?_⟩
 have rel0:VRels (fun _=>none) [] VS:=by simpa [VRels] using rel
 have s0:Sim P [] (fun _=>none) h₀ w:=⟨fun g hg=>by simp at hg,fun id _=>⟨hz id,rfl⟩,fun id x hx=>(by rw [hz] at hx;cases hx),fun id id' x x' L L' hx=>(by rw [hz] at hx;cases hx)⟩
 refine (c.2 _ w VS s0 rel0).mono fun e w' he=>?_
 obtain ⟨V,v,h',ρ',rfl,r2,r3,r4,rfl⟩:=he
 have fr:∀ B,B < w.heap.size->w'.heap[B]?=w.heap[B]?:=fun B hB=>r4.frame B hB (by rintro ⟨id,x,L,hx,_⟩;rw [hz] at hx;cases hx)
 have eV:V=.bool b:=by simpa [VRel] using r2
 refine ⟨V,.bool b,h,ρ,rfl,by rw [eV];simp [VRel],⟨sm.glob,sm.fresh,fun id x hx=>?_,sm.own⟩,⟨r4.os,r4.tape,r4.output,r4.size,Nat.le_refl _,fun _ _=>rfl,fun B hB _=>fr B hB,fun _ _ h=>h,fun _ _ h=>h⟩,H⟩
 obtain ⟨L,e1,e2⟩:=sm.blk id x hx
 exact ⟨L,e1,e2.stay fr⟩
end Go.Ab
namespace Go.Ab.Z
open Go Go.Ab
theorem get_leaf (n id:Nat):(⟨n,.leaf⟩:AHeap).get id=none:=by
 unfold AHeap.get
 cases path id<;>rfl
noncomputable def yes:Post:=fun v _=>(onLeaf v (fun _ _=>false) (fun _=>false) (fun b=>b) false)=true
set_option maxRecDepth 100000 in
theorem awake_run:call (compF PP []) 2000 60 8 [] ⟨300,.leaf⟩ yes=(true=true):=by kernel_rfl
theorem f8 {h:AHeap} {k:Post} (H:WF h->k (.bool true) h):Cf 8 [] h k:=by
 have c:cfP PP [] 8 [] ⟨300,.leaf⟩ yes:=call_holds (by rw [awake_run])
 have c':cfP PP [] 8 [] ⟨300,.leaf⟩ fun v _=>v=.bool true:=by
  refine cfP_mono PP [] _ _ _ _ _ (fun v h' hv=>?_) c
  unfold yes at hv
  cases v with
  | bool b=>exact congrArg AVal.bool hv
  | _=>cases hv
 exact cfP_wf c.1 fun hw=>cfP_alone (get_leaf 300) c' fun _=>H hw
end Go.Ab.Z
namespace Go.Ab.Z
open Go Go.Ab
variable {h h':AHeap} {k:Post} {fe le en mo en' mo':AVal} {A:PAlpha} {X Y:PAuto}
theorem lay3 {g:AHeap} (w:WF g) (n:Int) {e m:AVal} (o1:oneA e=true) (o2:oneA m=true):∃ g',(g.newCells [.int .i64 0,.nils,.nils]).write g.next 0 [.int .i64 n,e,m]=some g'/\Blk g' g.next [.int .i64 n,e,m]/\Hle g g'/\WF g'/\g'.next=g.next+1:=by
 have wA:=w.newCells [.int .i64 0,.nils,.nils]
 have lA:=Hle.newCells w [.int .i64 0,.nils,.nils]
 obtain ⟨g',a1,a2,a3⟩:=(Blk.new g [.int .i64 0,.nils,.nils]).write (off:=0) (vs:=[.int .i64 n,e,m]) (by simp) (one3 rfl o1 o2)
 exact ⟨g',a1,by simpa using a2,a3.hle lA w (Nat.le_refl _),a3.wf wA (by simp),by rw [a3.next];simp⟩
theorem Lent.one (l:Lent h en mo X):oneA en=true/\oneA mo=true:=by
 obtain ⟨b1,b2,rfl,rfl,_⟩:=l
 exact ⟨rfl,rfl⟩
theorem OwnAuto.mono {h₀:AHeap} (o:OwnAuto h₀ h en mo X) (l:Hle h h'):OwnAuto h₀ h' en mo X:=⟨o.oe.mono l,o.om.mono l,o.ge,o.go⟩
theorem OwnAuto.lt {h₀:AHeap} (o:OwnAuto h₀ h en mo X) (w:WF h):(∀ j∈blkOf en,j < h.next)/\∀ j∈blkOf mo,j < h.next:=⟨own_lt o.oe w,own_lt o.om w⟩
@[simp] theorem boolEq (a b:Bool):(a == b)=decide (a=b):=by cases a<;>cases b<;>rfl
set_option maxHeartbeats 4000000 in
theorem f3 (hA:IsAlpha h fe le A) (hX:IsAuto h en mo X) (hY:IsAuto h en' mo' Y) (hxe:X.ends.length<=1048576) (hxm:X.moves.length<=1048576) (hye:Y.ends.length<=1048576) (hym:Y.moves.length<=1048576)
  (H:∀ h',WF h'->k (.bool true) h'):Cf 3 [.agg [fe,le],aV X.states en mo,aV Y.states en' mo'] h k:=by
 refine use_code compiled3 fun hw=>?_
 have w1:=hw.newCells [fe,le]
 have le1:=Hle.newCells hw [fe,le]
 have w2:=w1.newCells [.int .i64 X.states,en,mo]
 have le2:=Hle.newCells w1 [.int .i64 X.states,en,mo]
 have w3:=w2.newCells [.int .i64 Y.states,en',mo']
 have le3:=Hle.newCells w2 [.int .i64 Y.states,en',mo']
 have leh:=(le1.trans le2).trans le3
 have va:=((Blk.new h [fe,le]).mono le2).mono le3
 have vx:=(Blk.new (h.newCells [fe,le]) [.int .i64 X.states,en,mo]).mono le3
 have vy:=Blk.new ((h.newCells [fe,le]).newCells [.int .i64 X.states,en,mo]) [.int .i64 Y.states,en',mo']
 simp only [next_newCells] at vx vy
 simp [fn3,aV]
 generalize hg0:((h.newCells [fe,le]).newCells [.int .i64 X.states,en,mo]).newCells [.int .i64 Y.states,en',mo']=g0 at *
 have gn:g0.next=h.next+3:=by rw [<-hg0];simp
 have ra:=fun {g:AHeap} (l:Hle g0 g)=>(va.mono l).rd (off:=0) (n:=2) (l:=[fe,le]) (by simp) rfl
 have rx:=fun {g:AHeap} (l:Hle g0 g)=>(vx.mono l).rd (off:=0) (n:=3) (l:=[.int .i64 X.states,en,mo]) (by simp) rfl
 have ry:=fun {g:AHeap} (l:Hle g0 g)=>(vy.mono l).rd (off:=0) (n:=3) (l:=[.int .i64 Y.states,en',mo']) (by simp) rfl
 clear w1 w2 le1 le2 le3
 refine f8 fun _=>?_
 simp [ra (Hle.refl _)]
 refine f9 (hA.mono leh) fun g1 w1 l1=>?_
 cases hwide:wide A with
 | true =>
  simp
  exact fun w=>H _ w
 | false =>
 simp [rx l1]
 refine f10 (hX.mono (leh.trans l1)) fun g2 w2 l2=>?_
 have l02:=l1.trans l2
 cases hlx:large X with
 | true =>
  simp
  exact fun w=>H _ w
 | false =>
 simp [ry l02]
 refine f10 (hY.mono (leh.trans l02)) fun g3 w3' l3=>?_
 have l03:=l02.trans l3
 cases hly:large Y with
 | true =>
  simp
  exact fun w=>H _ w
 | false =>
 simp [rx l03]
 refine f11 (hX.mono (leh.trans l03)) hxe hxm fun g4 ue um w4 l4 lu=>?_
 have l04:=l03.trans l4
 obtain ⟨uo1,uo2⟩:=lu.one
 obtain ⟨g5,a1,a2,a3,w5,a5⟩:=lay3 w4 X.states uo1 uo2
 have l05:=l04.trans a3
 simp [aV,a1,ry l05]
 refine f11 (hY.mono (leh.trans l05)) hye hym fun g6 ve vm w6 l6 lv=>?_
 have l06:=l05.trans l6
 obtain ⟨vo1,vo2⟩:=lv.one
 obtain ⟨g7,b1,b2,b3,w7,b5⟩:=lay3 w6 Y.states vo1 vo2
 have l07:=l06.trans b3
 have u7:=lu.mono (a3.trans (l6.trans b3))
 have v7:=lv.mono b3
 have vu:=a2.mono (l6.trans b3)
 have uX:=u7.is hX
 have vY:=v7.is hY
 have ru:=fun {g:AHeap} (l:Hle g7 g)=>(vu.mono l).rd (off:=0) (n:=3) (l:=[.int .i64 X.states,ue,um]) (by simp) rfl
 have rv:=fun {g:AHeap} (l:Hle g7 g)=>(b2.mono l).rd (off:=0) (n:=3) (l:=[.int .i64 Y.states,ve,vm]) (by simp) rfl
 simp [aV,b1,ra l07,ru (Hle.refl _),rv (Hle.refl _)]
 refine f12 (hA.mono (leh.trans l07)) uX vY fun g8 be bm w8 l8 ib ob=>?_
 obtain ⟨g9,c1,c2,c3,w9,c5⟩:=lay3 w8 (pairX fAnd A X Y).1.states ob.oe.one ob.om.one
 have l79:=l8.trans c3
 have l09:=l07.trans l79
 simp [aV,c1,ra l09,rx l09,ry l09]
 refine f13 (hA.mono (leh.trans l09)) (hX.mono (leh.trans l09)) (hY.mono (leh.trans l09)) fun g10 de dm w10 l10 idd od=>?_
 obtain ⟨g11,d1,d2,d3,w11,d5⟩:=lay3 w10 (pairX fAnd A X Y).1.states od.oe.one od.om.one
 have l9b:=l10.trans d3
 have l7b:=l79.trans l9b
 have l0b:=l07.trans l7b
 simp [aV,d1,ra l0b,ru l7b,rv l7b]
 refine f14 (hA.mono (leh.trans l0b)) (uX.mono l7b) (vY.mono l7b) fun g12 ce cm w12 l12 ic oc=>?_
 obtain ⟨g13,e1,e2',e3,w13,e5⟩:=lay3 w12 (pairX fOr A X Y).1.states oc.oe.one oc.om.one
 have lbd:=l12.trans e3
 have l7d:=l7b.trans lbd
 have l0d:=l07.trans l7d
 simp [aV,e1,ra l0d,rx l0d,ry l0d]
 refine f15 (hA.mono (leh.trans l0d)) (hX.mono (leh.trans l0d)) (hY.mono (leh.trans l0d)) fun g14 fe' fm w14 l14 ifd of_=>?_
 obtain ⟨g15,f1,f2,f3,w15,f5⟩:=lay3 w14 (pairX fOr A X Y).1.states of_.oe.one of_.om.one
 have ldf:=l14.trans f3
 have l7f:=l7d.trans ldf
 have l0f:=l07.trans l7f
 simp [aV,f1,ra l0f,ru l7f,rv l7f]
 refine f16 (hA.mono (leh.trans l0f)) (uX.mono l7f) (vY.mono l7f) fun g16 w16 l16=>?_
 have l0g:=l0f.trans l16
 simp [ra l0g,rx l0g,ry l0g]
 refine f17 (hA.mono (leh.trans l0g)) (hX.mono (leh.trans l0g)) (hY.mono (leh.trans l0g)) fun g17 w17 l17=>?_
 have lf17:=l16.trans l17
 have ld17:=ldf.trans lf17
 have lb17:=lbd.trans ld17
 have l917:=l9b.trans lb17
 have rb:=fun {g:AHeap} (l:Hle g17 g)=>(c2.mono (l917.trans l)).rd (off:=0) (n:=3) (l:=[.int .i64 (pairX fAnd A X Y).1.states,be,bm]) (by simp) rfl
 have rd:=fun {g:AHeap} (l:Hle g17 g)=>(d2.mono (lb17.trans l)).rd (off:=0) (n:=3) (l:=[.int .i64 (pairX fAnd A X Y).1.states,de,dm]) (by simp) rfl
 have rc:=fun {g:AHeap} (l:Hle g17 g)=>(e2'.mono (ld17.trans l)).rd (off:=0) (n:=3) (l:=[.int .i64 (pairX fOr A X Y).1.states,ce,cm]) (by simp) rfl
 have rf:=fun {g:AHeap} (l:Hle g17 g)=>(f2.mono (lf17.trans l)).rd (off:=0) (n:=3) (l:=[.int .i64 (pairX fOr A X Y).1.states,fe',fm]) (by simp) rfl
 simp [rb (Hle.refl _),rd (Hle.refl _)]
 refine f18 (ib.mono (c3.trans l917)) (idd.mono (d3.trans lb17)) fun g18 w18 l18=>?_
 simp [rc l18,rf l18]
 refine f18 (ic.mono ((e3.trans ld17).trans l18)) (ifd.mono ((f3.trans lf17).trans l18)) fun g19 w19 l19=>?_
 have l1719:=l18.trans l19
 have l719:=(l7f.trans lf17).trans l1719
 simp [rb l1719]
 have ob19:=ob.mono ((c3.trans l917).trans l1719)
 have oc19:=oc.mono ((e3.trans ld17).trans l1719)
 obtain ⟨bl1,bl2⟩:=ob.lt w8
 obtain ⟨cl1,cl2⟩:=oc.lt w12
 have n78:=l8.next
 have n89:=c5
 have n9b:=l9b.next
 have n12:=l12.next
 have n19:=(ld17.trans l1719).next
 have n13:g13.next=g12.next+1:=e5
 refine f19 ob19 (by have:=ib.ne;omega) (by have:=ib.nm;omega) fun g20 w20 n20 k20=>?_
 have l720:Hle g7 g20:=⟨by have:=l719.next;omega,fun j y e=>by
  have jl:=w7.lt e
  exact k20 j (by have:=l719.next;omega) (fun hj=>by have:=ob.ge j hj;omega) (fun hj=>by have:=(ob.go j hj).1;omega) y (l719.get j y e)⟩
 have rc20:g20.read g12.next 0 3=some [.int .i64 (pairX fOr A X Y).1.states,ce,cm]:=by
  have b:=e2'.mono (ld17.trans l1719)
  have hlt:=b.lt w19
  exact (Blk.kp b (k20 _ hlt (fun hj=>by have:=bl1 _ hj;omega) (fun hj=>by have:=bl2 _ hj;omega))).rd (off:=0) (n:=3) (by simp) rfl
 have oc20:OwnAuto g11 g20 ce cm (pairX fOr A X Y).1:=by
  obtain ⟨m1,m2⟩:=oc19.lt w19
  exact ⟨own_kp oc19.oe fun j hj=>k20 j (m1 j hj) (fun e=>by have:=bl1 j e;have:=oc.ge j hj;omega) (fun e=>by have:=bl2 j e;have:=oc.ge j hj;omega),own_kp oc19.om fun j hj=>k20 j (m2 j hj) (fun e=>by have:=bl1 j e;have:=(oc.go j hj).1;omega) (fun e=>by have:=bl2 j e;have:=(oc.go j hj).1;omega),oc.ge,oc.go⟩
 simp [rc20]
 refine f19 oc20 (by have:=ic.ne;omega) (by have:=ic.nm;omega) fun g21 w21 n21 k21=>?_
 have n720:=l720.next
 have l721:Hle g7 g21:=⟨by omega,fun j y e=>by
  have jl:=w7.lt e
  exact k21 j (by omega) (fun hj=>by have:=oc.ge j hj;omega) (fun hj=>by have:=(oc.go j hj).1;omega) y (l720.get j y e)⟩
 have l021:=l07.trans l721
 simp [ru l721,rx l021]
 refine f20 (hX.mono (leh.trans l021)) hxe hxm (u7.mono l721) fun g22 w22 l22=>?_
 have l722:=l721.trans l22
 have l022:=l021.trans l22
 simp [rv l722,ry l022]
 refine f20 (hY.mono (leh.trans l022)) hye hym (v7.mono l722) fun g23 w23 l23=>?_
 simp
 exact fun w=>H _ w
end Go.Ab.Z
namespace Go.Ab.Z
open Go Go.Ab Go.Deep
variable {ρ:Rho} {h:AHeap} {w:World}
structure Seen (ρ:Rho) (h:AHeap) (w:World):Prop where
 sim:Sim PP [] ρ h w
 ro:∀ id b,h.get id=some b->¬ b.wr
theorem Seen.wf (s:Seen ρ h w):WF h:=fun id hi=>(s.sim.fresh id hi).1
theorem Seen.start (w:World):Seen (fun _=>none) ⟨0,.leaf⟩ w:=by
 have g:∀ i,(AHeap.mk 0 .leaf).get i=none:=fun i=>get_leaf 0 i
 exact ⟨⟨fun g hg=>(by cases hg),fun id _=>⟨g id,rfl⟩,fun id b hb=>(by rw [g] at hb;cases hb),fun id _ b _ _ _ hb=>(by rw [g] at hb;cases hb)⟩,fun id b hb=>(by rw [g] at hb;cases hb)⟩
theorem Seen.share (s:Seen ρ h w) {n:Nat} {a:PT AVal} {L:Loc} (hb:∀ ρ',BRel PP ρ' L w (.cells n a 2)) :
  Seen (ρ.put h.next L) (h.new (.cells n a 2)) w/\ρ.le (ρ.put h.next L)/\Hle h (h.new (.cells n a 2)):=by
 have hle:ρ.le (ρ.put h.next L):=Rho.le_put (s.sim.fresh _ (Nat.le_refl _)).2
 have ro:∀ id b,(h.new (.cells n a 2)).get id=some b->¬ b.wr:=by
  intro id b hb'
  rw [AHeap.get_new] at hb'
  split at hb'
  ·cases hb';simp [ABlock.wr]
  ·exact s.ro id b hb'
 refine ⟨⟨⟨fun g hg=>(by cases hg),fun id hid=>?_,fun id b hb'=>?_,fun id id' b b' L L' h1 h2 k1 k2 hwr=>absurd hwr (ro id b h1)⟩,ro⟩,hle,Hle.new s.wf _⟩
 ·simp at hid
  have:=s.sim.fresh id (by omega)
  rw [AHeap.get_new,if_neg (by omega),Rho.put_ne (by omega)]
  exact this
 ·rw [AHeap.get_new] at hb'
  split at hb'
  ·rename_i e;cases hb';subst e
   exact ⟨L,Rho.put_same _ _ _,hb _⟩
  ·rename_i e
   obtain ⟨K,k,r⟩:=s.sim.blk id b hb'
   exact ⟨K,by rw [Rho.put_ne (fun x=>e x.symm)];exact k,r.keep rfl hle⟩
theorem flat_all {sz:Nat} {Q:Nat->AVal->Prop}:∀ (ls:List (List AVal)) (off:Nat),(∀ l∈ls,l.length=sz)->(∀ i l,ls[i]?=some l->∀ f c,l[f]?=some c->Q (off+(i*sz+f)) c)->∀ j c,ls.flatten[j]?=some c->Q (off+j) c
 | [],_,_,_,j,c,h=>by simp at h
 | l :: ls,off,hs,hg,j,c,h=>by
  have hl:=hs l (by simp)
  rw [List.flatten_cons] at h
  by_cases hj:j < l.length
  ·rw [List.getElem?_append_left hj] at h
   have:=hg 0 l rfl j c h
   simpa using this
  ·rw [List.getElem?_append_right (by omega)] at h
   have:=flat_all (Q:=Q) ls (off+sz) (fun x hx=>hs x (by simp [hx])) (fun i x hx f c hc=>by
    have:=hg (i+1) x (by simpa using hx) f c hc
    rw [Nat.succ_mul] at this
    have e:off+sz+(i*sz+f)=off+(i*sz+sz+f):=by omega
    rw [e];exact this) (j - l.length) c h
   have e:off+sz+(j - l.length)=off+j:=by omega
   rw [e] at this;exact this
theorem flat_at {sz:Nat}:∀ (ls:List (List AVal)),(∀ l∈ls,l.length=sz)->∀ i l,ls[i]?=some l->∀ f c,l[f]?=some c->ls.flatten[i*sz+f]?=some c
 | [],_,i,l,e,_,_,_=>by simp at e
 | x :: ls,hs,0,l,e,f,c,hf=>by
  simp at e;subst e
  have:=(List.getElem?_eq_some_iff.1 hf).1
  simp only [List.flatten_cons,Nat.zero_mul,Nat.zero_add]
  rw [List.getElem?_append_left this];exact hf
 | x :: ls,hs,i+1,l,e,f,c,hf=>by
  have hx:=hs x (by simp)
  rw [List.flatten_cons,Nat.succ_mul,List.getElem?_append_right (by omega)]
  have:=flat_at ls (fun y hy=>hs y (by simp [hy])) i l (by simpa using e) f c hf
  rw [<-this];congr 1;omega
theorem add_off (a:Addr) (i:Nat) (hs:a.spot=none):a.add i=⟨a.block,a.off+i,none⟩:=by
 unfold Addr.add
 split
 ·rename_i e;subst e;cases a;simp at hs;simp [hs]
 ·rfl
theorem Seen.slice (s:Seen ρ h w) {a:Addr} {len cap sz:Nat} {ls:List (List AVal)} (h0:0 < sz) (hl:ls.length=len) (hcl:len<=cap) (hs:∀ l∈ls,l.length=sz)
  (rd:∀ i,i < cap*sz->∃ X,w.cell? (a.add i)=some X)
  (el:∀ i l,ls[i]?=some l->∀ f c,l[f]?=some c->∃ X,w.cell? (a.add (i*sz+f))=some X/\∀ ρ,VRel ρ c X)
  (gb:∃ (B:Nat) (c:Array Value) (e:TypeId) (fr:Nat×Nat),w.heap[B]?=some (Obj.cells c e fr)) :
  ∃ ρ' h' v,Seen ρ' h' w/\ρ.le ρ'/\Hle h h'/\VRel ρ' v (.slice (some a) len cap)/\Row h' sz v ls:=by
 by_cases hc:cap=0
 ·subst hc
  obtain rfl:len=0:=by omega
  obtain rfl:ls=[]:=by simpa using hl
  obtain ⟨B,c,e,fr,hB⟩:=gb
  obtain ⟨s',le,hh⟩:=s.share (n:=0) (a:=.leaf) (L:=⟨B,0,c.size⟩) (fun ρ'=>⟨c,e,fr,hB,rfl,by simp,fun i hi=>absurd hi (by omega),fun hm=>absurd hm (by omega),fun hm=>absurd hm (by omega)⟩)
  refine ⟨_,_,.slice h.next 0 0 0 sz,s',le,hh,⟨⟨B,0,c.size⟩,a,0,Rho.put_same _ _ _,rfl,Nat.le_refl _,Nat.le_refl _,Or.inr rfl⟩,by simp,Or.inr ⟨h.next,0,0,rfl,by simp,0,.leaf,2,by rw [AHeap.get_new,if_pos rfl],by simp,fun i l e=>by simp at e⟩⟩
 ·have hp:0 < cap*sz:=Nat.mul_pos (by omega) h0
  obtain ⟨X0,hX0⟩:=rd 0 hp
  have hsp:a.spot=none:=by have:=World.cell?_spot hX0;simpa [Addr.add] using this
  have rd':∀ i,i < cap*sz->∃ X,w.cell? ⟨a.block,a.off+i,none⟩=some X:=fun i hi=>by rw [<-add_off a i hsp];exact rd i hi
  have el':∀ i l,ls[i]?=some l->∀ f c,l[f]?=some c->∃ X,w.cell? ⟨a.block,a.off+(i*sz+f),none⟩=some X/\∀ ρ,VRel ρ c X:=fun i l e f c hf=>by rw [<-add_off a _ hsp];exact el i l e f c hf
  obtain ⟨B,O,sp⟩:=a
  simp only at hsp;subst hsp
  obtain ⟨c,e,fr,hB⟩:∃ (c:Array Value) (e:TypeId) (fr:Nat×Nat),w.heap[B]?=some (Obj.cells c e fr):=by
   obtain ⟨X,hX⟩:=rd' 0 hp
   unfold World.cell? at hX
   simp only at hX
   split at hX
   ·rename_i c e fr hh;exact ⟨c,e,fr,hh⟩
   ·cases hX
  have cell:∀ i,w.cell? ⟨B,i,none⟩=c[i]?:=fun i=>by simp [World.cell?,hB]
  simp only [cell] at rd' el'
  have hsz:O+cap*sz<=c.size:=by
   obtain ⟨X,hX⟩:=rd' (cap*sz - 1) (by omega)
   have:=(Array.getElem?_eq_some_iff.1 hX).1
   omega
  have hle:len*sz<=cap*sz:=Nat.mul_le_mul_right _ hcl
  have fl:ls.flatten.length=len*sz:=by rw [flat_len ls hs,hl]
  have all:=flat_all (Q:=fun j v=>∃ X,c[O+j]?=some X/\∀ ρ,VRel ρ v X) ls 0 hs (fun i l e f v hf=>by simpa using el' i l e f v hf)
  simp only [Nat.zero_add] at all
  obtain ⟨s',le,hh⟩:=s.share (n:=len*sz) (a:=ofList ls.flatten) (L:=⟨B,O,c.size⟩) (fun ρ'=>⟨c,e,fr,hB,rfl,by simp only;omega,fun i hi v hv=>by
   rw [get_ofList] at hv
   obtain ⟨X,hX,r⟩:=all i v hv
   exact ⟨X,hX,r ρ'⟩,fun hm=>absurd hm (by omega),fun hm=>absurd hm (by omega)⟩)
  refine ⟨_,_,.slice h.next 0 ls.length cap sz,s',le,hh,⟨⟨B,O,c.size⟩,⟨B,O,none⟩,cap,Rho.put_same _ _ _,by rw [hl],by omega,Nat.le_refl _,Or.inl ⟨by simp,by simp only [Nat.add_zero];omega⟩⟩,hs,Or.inr ⟨h.next,0,cap,rfl,by omega,_,_,2,by rw [AHeap.get_new,if_pos rfl],by rw [hl];omega,fun i l e f v hf=>by
   rw [get_ofList,Nat.zero_add];exact flat_at ls hs i l e f v hf⟩⟩
theorem list_ex {α β:Type} {g:α->β} {R:α->Prop}:∀ ls:List β,(∀ l∈ls,∃ s,l=g s/\R s)->∃ fs:List α,ls=fs.map g/\∀ s∈fs,R s
 | [],_=>⟨[],rfl,by simp⟩
 | l :: ls,h=>by
  obtain ⟨s,rfl,r⟩:=h l (by simp)
  obtain ⟨fs,rfl,q⟩:=list_ex ls fun x hx=>h x (by simp [hx])
  exact ⟨s :: fs,rfl,by simpa using ⟨r,q⟩⟩
section
variable {H:Type} {enc:TypeId×Value->H} {held:Bool} {sp:Nat->Bool}
theorem Seen.row (s:Seen ρ h w) {t e:TypeId} {sz fuel:Nat} {cs:List Value} {x:DataW H×List MemPlace} {Q:List AVal->DataW H->Prop} (h0:0 < sz) (hu:PP.underlying t=some (.slice e)) (hz:PP.cellsOf e=sz)
  (htr:DataW.trod enc PP w 0 (fun _=>true) held fuel t cs=some x)
  (el:∀ n cs' y,DataW.trod enc PP w 0 (fun _=>true) held n e cs'=some y->cs'.length=sz->∃ l:List AVal,l.length=sz/\Q l y.1/\∀ (f:Nat) (c:AVal),l[f]?=some c->∃ X,cs'[f]?=some X/\∀ ρ,VRel ρ c X)
  (gb:∃ (B:Nat) (c:Array Value) (e:TypeId) (fr:Nat×Nat),w.heap[B]?=some (Obj.cells c e fr)) :
  ∃ ρ' h' v V ls,cs=[V]/\Seen ρ' h' w/\ρ.le ρ'/\Hle h h'/\VRel ρ' v V/\Row h' sz v ls /\
   ((x.1=.nil/\ls=[])\/∃ ds sp,x.1=.slice ds sp/\ls.length=ds.length/\∀ l∈ls,∃ d∈ds,Q l d):=by
 rcases open_slice hu htr with ⟨rfl,rfl⟩ | ⟨a,len,cap,m,n,D,Pl,rfl,_,hlc,_,hm,rfl,hi⟩
 ·exact ⟨ρ,h,.nils,_,[],rfl,s,fun _ _ h=>h,Hle.refl _,rfl,⟨by simp,Or.inl ⟨rfl,rfl⟩⟩,Or.inl ⟨rfl,rfl⟩⟩
 ·simp only [if_true] at hm
  subst hm
  rw [hz] at hi
  have ch:∀ i,i < m->∃ l:List AVal,l.length=sz/\Q l (D i)/\∀ f c,l[f]?=some c->∃ X,w.cell? (a.add (i*sz+f))=some X/\∀ ρ,VRel ρ c X:=by
   intro i him
   obtain ⟨cs',h1,h2⟩:=hi i him
   obtain ⟨_,hlen,hc⟩:=World.cells?_some h1
   obtain ⟨l,l1,l2,l3⟩:=el n cs' _ h2 hlen
   refine ⟨l,l1,l2,fun f c hf=>?_⟩
   obtain ⟨X,hX,r⟩:=l3 f c hf
   refine ⟨X,?_,r⟩
   rw [<-add_add,hc f (by have:=(List.getElem?_eq_some_iff.1 hf).1;omega)]
   exact hX
  obtain ⟨F,hF⟩:=choose_lt ch
  have idx:∀ i l,((List.range len).map F)[i]?=some l->i < len/\l=F i:=by
   intro i l e
   simp only [List.getElem?_map,Option.map_eq_some_iff] at e
   obtain ⟨j,hj,rfl⟩:=e
   obtain ⟨h1,h2⟩:=List.getElem?_eq_some_iff.1 hj
   simp at h1 h2;subst h2;exact ⟨h1,rfl⟩
  have mem:∀ l∈(List.range len).map F,∃ i,i < len/\l=F i:=by
   intro l hl
   obtain ⟨i,hi,rfl⟩:=List.mem_map.1 hl
   exact ⟨i,by simpa using hi,rfl⟩
  have lensz:∀ l∈(List.range len).map F,l.length=sz:=fun l hl=>by
   obtain ⟨i,hi,rfl⟩:=mem l hl
   exact (hF i (by omega)).1
  obtain ⟨ρ',h',v,s',le,hh,r1,r2⟩:=s.slice (a:=a) (len:=len) (cap:=m) (sz:=sz) (ls:=(List.range len).map F) h0 (by simp) hlc lensz (fun i hi'=>by
    have hq:i / sz < m:=Nat.div_lt_of_lt_mul (by rw [Nat.mul_comm];exact hi')
    obtain ⟨cs',h1,h2⟩:=hi (i / sz) hq
    obtain ⟨_,hlen,hc⟩:=World.cells?_some h1
    have hr:i % sz < sz:=Nat.mod_lt _ h0
    have:=hc (i % sz) hr
    rw [add_add,Nat.div_add_mod'] at this
    rw [this,List.getElem?_eq_getElem (by omega)]
    exact ⟨_,rfl⟩) (fun i l e=>by
    obtain ⟨h1,rfl⟩:=idx i l e
    exact (hF i (by omega)).2.2) gb
  refine ⟨ρ',h',v,_,_,rfl,s',le,hh,r1,r2,Or.inr ⟨_,_,rfl,by simp,fun l hl=>?_⟩⟩
  obtain ⟨i,hi,rfl⟩:=mem l hl
  exact ⟨D i,List.mem_map.2 ⟨i,by simpa using hi,rfl⟩,(hF i (by omega)).2.1⟩
end
end Go.Ab.Z
namespace Go.Ab.Z
open Go Go.Ab Go.Deep Go.Proofs Go.ChangeShapes Go.WideShapes
variable {ρ:Rho} {h:AHeap} {w:World}
theorem c9:PP.cellsOf 9=1:=by kernel_rfl
theorem c3':PP.cellsOf 3=1:=by kernel_rfl
theorem c21:PP.cellsOf 21=1:=by kernel_rfl
theorem c83:PP.cellsOf 83=1:=by kernel_rfl
theorem c85:PP.cellsOf 85=3:=by kernel_rfl
theorem c62:PP.cellsOf 62=3:=by kernel_rfl
theorem c22:PP.cellsOf 22=1:=by kernel_rfl
theorem c23:PP.cellsOf 23=1:=by kernel_rfl
theorem c26:PP.cellsOf 26=1:=by kernel_rfl
theorem c27:PP.cellsOf 27=1:=by kernel_rfl
theorem u83:PP.underlying 83=some (.int .u32):=by kernel_rfl
open Go.Proofs.YtnaccglcbfeenaaGreatDoor.Rows (uptoBulk uptoBulkAll)
section
variable {H:Type}
theorem bulk_one (d:DataW H):1<=uptoBulk d:=by
 cases d with
 | lit l=>cases l<;>simp [uptoBulk]
 | nil=>simp [uptoBulk]
 | ptr d=>simp [uptoBulk]
 | slice elems spare=>simp [uptoBulk]
 | agg parts=>simp [uptoBulk]
 | iface t d=>simp [uptoBulk]
 | map entries=>simp [uptoBulk]
 | held h=>simp [uptoBulk]
theorem bulk_part {d:DataW H} {l:List (DataW H)} (h:d∈l):uptoBulk d<=uptoBulkAll l:=by
 induction l with
 | nil=>cases h
 | cons x r ih =>
  simp only [uptoBulkAll]
  cases List.mem_cons.1 h with
  | inl e=>subst e;omega
  | inr e=>have:=ih e;omega
theorem bulk_len (l:List (DataW H)):l.length<=uptoBulkAll l:=by
 induction l with
 | nil=>simp [uptoBulkAll]
 | cons x r ih=>have:=bulk_one x;simp only [uptoBulkAll,List.length_cons];omega
theorem bulk_slice (elems spare:List (DataW H)):elems.length<=uptoBulk (.slice elems spare)/\∀ d∈elems,uptoBulk d<=uptoBulk (.slice elems spare):=by
 have h1:=bulk_len elems
 refine ⟨?_,fun d hd=>?_⟩
 ·simp only [uptoBulk];omega
 ·have:=bulk_part hd
  simp only [uptoBulk];omega
theorem bulk_agg (ds:List (DataW H)):∀ d∈ds,uptoBulk d<=uptoBulk (.agg ds):=by
 intro d hd
 have:=bulk_part hd
 simp only [uptoBulk];omega
theorem bulk_str (b:List UInt8):b.length<=uptoBulk (DataW.lit (H:=H) (.string b)):=by
 simp [uptoBulk]
end
theorem wf_i32 {n:Int} (h:(Lit.int .i32 n).wf=true):I32 n:=by
 simp [Lit.wf,IntKind.min,IntKind.max,IntKind.bits,IntKind.signed] at h
 unfold I32;omega
theorem wf_u32 {n:Int} (h:(Lit.int .u32 n).wf=true):U32 n:=by
 simp [Lit.wf,IntKind.min,IntKind.max,IntKind.bits,IntKind.signed] at h
 unfold U32;omega
theorem wf_i64 {n:Int} (h:(Lit.int .i64 n).wf=true):I64 n:=by
 simp [Lit.wf,IntKind.min,IntKind.max,IntKind.bits,IntKind.signed] at h
 unfold I64;omega
section
variable {H:Type} {enc:TypeId×Value->H} {held:Bool}
abbrev HasCells (w:World):Prop:=∃ (B:Nat) (c:Array Value) (e:TypeId) (fr:Nat×Nat),w.heap[B]?=some (Obj.cells c e fr)
theorem three_get {a b c:Value} {l:List AVal} {A B C:AVal} (hl:l=[A,B,C]) (h1:∀ ρ,VRel ρ A a) (h2:∀ ρ,VRel ρ B b) (h3:∀ ρ,VRel ρ C c):∀ (f:Nat) (x:AVal),l[f]?=some x->∃ X,[a,b,c][f]?=some X/\∀ ρ,VRel ρ x X:=by
 subst hl
 intro f x hf
 match f,hf with
 | 0,hf=>simp at hf;subst hf;exact ⟨_,rfl,h1⟩
 | 1,hf=>simp at hf;subst hf;exact ⟨_,rfl,h2⟩
 | 2,hf=>simp at hf;subst hf;exact ⟨_,rfl,h3⟩
 | f+3,hf=>simp at hf
theorem one_get {a:Value} {A:AVal} (h1:∀ ρ,VRel ρ A a):∀ (f:Nat) (x:AVal),[A][f]?=some x->∃ X,[a][f]?=some X/\∀ ρ,VRel ρ x X:=by
 intro f x hf
 match f,hf with
 | 0,hf=>simp at hf;subst hf;exact ⟨_,rfl,h1⟩
 | f+1,hf=>simp at hf
theorem rel_int (k:IntKind) (n:Int) (ρ:Rho):VRel ρ (.int k n) (.int k n):=by simp [VRel]
theorem el_str:∀ n cs' y,DataW.trod enc PP w 0 (fun _=>true) held n 9 cs'=some y->cs'.length=1->∃ l:List AVal,l.length=1/\(∃ s,l=[.str s]/\s.length<=uptoBulk y.1)/\∀ (f:Nat) (c:AVal),l[f]?=some c->∃ X,cs'[f]?=some X/\∀ ρ,VRel ρ c X:=by
 intro n cs' y hy _
 obtain ⟨s,rfl,rfl,_⟩:=DataW.trod_string Tryz.underlying9 hy
 exact ⟨[.str s.data.toList],rfl,⟨_,rfl,bulk_str _⟩,one_get fun ρ=>⟨s,rfl,rfl⟩⟩
theorem el_int:∀ n cs' y,DataW.trod enc PP w 0 (fun _=>true) held n 3 cs'=some y->cs'.length=1->∃ l:List AVal,l.length=1/\(∃ s,l=[vI s]/\I64 s)/\∀ (f:Nat) (c:AVal),l[f]?=some c->∃ X,cs'[f]?=some X/\∀ ρ,VRel ρ c X:=by
 intro n cs' y hy _
 obtain ⟨s,rfl,rfl,hw⟩:=DataW.trod_int Tryz.underlying3 hy
 exact ⟨[vI s],rfl,⟨_,rfl,wf_i64 hw⟩,one_get fun ρ=>rel_int _ _ ρ⟩
theorem el_letter:∀ n cs' y,DataW.trod enc PP w 0 (fun _=>true) held n 85 cs'=some y->cs'.length=3->∃ l:List AVal,l.length=3/\(∃ s:PLetter,l=s.cells/\(I32 s.rune/\U32 s.plus/\U32 s.minus))/\∀ (f:Nat) (c:AVal),l[f]?=some c->∃ X,cs'[f]?=some X/\∀ ρ,VRel ρ c X:=by
 intro n cs' y hy hlen
 match cs',hlen with
 | [a,b,c],_ =>
  obtain ⟨y0,y1,y2,n,rfl,_,t0,t1,t2⟩:=trod_struct3 Tryz.underlying85 hy
  simp only [c21,c83,List.drop,List.take] at t0 t1 t2
  obtain ⟨r,e0,rfl,w0⟩:=DataW.trod_int Tryz.underlying21 t0
  obtain ⟨p,e1,rfl,w1⟩:=DataW.trod_int u83 t1
  obtain ⟨m,e2,rfl,w2⟩:=DataW.trod_int u83 t2
  simp only [List.cons.injEq,and_true] at e0 e1 e2
  subst e0 e1 e2
  exact ⟨[.int .i32 r,.int .u32 p,.int .u32 m],rfl,⟨⟨r,p,m⟩,rfl,wf_i32 w0,wf_u32 w1,wf_u32 w2⟩,three_get rfl (rel_int _ _) (rel_int _ _) (rel_int _ _)⟩
theorem el_move:∀ n cs' y,DataW.trod enc PP w 0 (fun _=>true) held n 62 cs'=some y->cs'.length=3->∃ l:List AVal,l.length=3/\(∃ s:PMove,l=s.cells/\(I64 s.src/\I64 s.dst/\I32 s.rune))/\∀ (f:Nat) (c:AVal),l[f]?=some c->∃ X,cs'[f]?=some X/\∀ ρ,VRel ρ c X:=by
 intro n cs' y hy hlen
 match cs',hlen with
 | [a,b,c],_ =>
  obtain ⟨y0,y1,y2,n,rfl,_,t0,t1,t2⟩:=trod_struct3 Tryz.underlying62 hy
  simp only [c21,c3',List.drop,List.take] at t0 t1 t2
  obtain ⟨r,e0,rfl,w0⟩:=DataW.trod_int Tryz.underlying3 t0
  obtain ⟨p,e1,rfl,w1⟩:=DataW.trod_int Tryz.underlying3 t1
  obtain ⟨m,e2,rfl,w2⟩:=DataW.trod_int Tryz.underlying21 t2
  simp only [List.cons.injEq,and_true] at e0 e1 e2
  subst e0 e1 e2
  exact ⟨[.int .i64 r,.int .i64 p,.int .i32 m],rfl,⟨⟨r,p,m⟩,rfl,wf_i64 w0,wf_i64 w1,wf_i32 w2⟩,three_get rfl (rel_int _ _) (rel_int _ _) (rel_int _ _)⟩
theorem Seen.rowQ {α:Type} {g:α->List AVal} {S:α->DataW H->Prop} (s:Seen ρ h w) {t e:TypeId} {sz fuel:Nat} {cs:List Value} {x:DataW H×List MemPlace} (h0:0 < sz) (hu:PP.underlying t=some (.slice e)) (hz:PP.cellsOf e=sz)
  (htr:DataW.trod enc PP w 0 (fun _=>true) held fuel t cs=some x) (gb:HasCells w)
  (el:∀ n cs' y,DataW.trod enc PP w 0 (fun _=>true) held n e cs'=some y->cs'.length=sz->∃ l:List AVal,l.length=sz/\(∃ s:α,l=g s/\S s y.1)/\∀ (f:Nat) (c:AVal),l[f]?=some c->∃ X,cs'[f]?=some X/\∀ ρ,VRel ρ c X) :
  ∃ ρ' h' v V,∃ fs:List α,cs=[V]/\Seen ρ' h' w/\ρ.le ρ'/\Hle h h'/\VRel ρ' v V/\Row h' sz v (fs.map g)/\fs.length<=uptoBulk x.1/\∀ s∈fs,∃ d,S s d/\uptoBulk d<=uptoBulk x.1:=by
 obtain ⟨ρ',h',v,V,ls,rfl,s',le,hh,r1,r2,r3⟩:=s.row (Q:=fun l d=>∃ s:α,l=g s/\S s d) h0 hu hz htr el gb
 have key:ls.length<=uptoBulk x.1/\∀ l∈ls,∃ s:α,l=g s/\∃ d,S s d/\uptoBulk d<=uptoBulk x.1:=by
  rcases r3 with ⟨_,rfl⟩ | ⟨ds,sp,e,hl,hq⟩
  ·exact ⟨by simp,by simp⟩
  ·rw [e,hl]
   obtain ⟨b1,b2⟩:=bulk_slice ds sp
   refine ⟨b1,fun l hl'=>?_⟩
   obtain ⟨d,hd,s,hs,hS⟩:=hq l hl'
   exact ⟨s,hs,d,hS,b2 d hd⟩
 obtain ⟨fs,rfl,hf⟩:=list_ex ls key.2
 exact ⟨ρ',h',v,V,fs,rfl,s',le,hh,r1,r2,by simpa using key.1,hf⟩
theorem two_agg {t:TypeId} {f0 f1:Field} {fuel:Nat} {cs:List Value} {x:DataW H×List MemPlace} {held:Bool} (ht:PP.underlying t=some (.struct #[f0,f1])) (h:DataW.trod enc PP w 0 (fun _=>true) held fuel t cs=some x) :
  ∃ y0 y1 n,x=(.agg [y0.1,y1.1],y0.2++y1.2)/\cs.length=PP.cellsOf t/\DataW.trod enc PP w 0 (fun _=>true) held n f0.type ((cs.drop f0.offset).take (PP.cellsOf f0.type))=some y0 /\
   DataW.trod enc PP w 0 (fun _=>true) held n f1.type ((cs.drop f1.offset).take (PP.cellsOf f1.type))=some y1:=by
 obtain ⟨xs,n,_,rfl,hl,hlen,hf⟩:=DataW.trod_struct ht h
 match xs,hlen with
 | [y0,y1],_=>exact ⟨y0,y1,n,by simp,hl,by simpa using hf 0 f0 rfl,by simpa using hf 1 f1 rfl⟩
theorem len2 {α:Type}:∀ {l:List α},l.length=2->∃ a b,l=[a,b]
 | [a,b],_=>⟨a,b,rfl⟩
theorem len3 {α:Type}:∀ {l:List α},l.length=3->∃ a b c,l=[a,b,c]
 | [a,b,c],_=>⟨a,b,c,rfl⟩
theorem c25:PP.cellsOf 25=2:=by kernel_rfl
theorem c29:PP.cellsOf 29=3:=by kernel_rfl
theorem Seen.alpha (s:Seen ρ h w) {V:Value} {d:DataW H} {ps:List MemPlace} (hv:∃ cs,V=.agg cs) (ht:DataW.Trod enc PP w 0 (fun _=>true) held 25 V d ps) (gb:HasCells w) (hb:uptoBulk d<=1048576) :
  ∃ ρ' h' fe le A,Seen ρ' h' w/\ρ.le ρ'/\Hle h h'/\VRel ρ' (.agg [fe,le]) V/\IsAlpha h' fe le A:=by
 obtain ⟨⟨cs⟩,rfl⟩:=hv
 obtain ⟨fuel,ht⟩:=ht
 simp only [Value.cells] at ht
 obtain ⟨y0,y1,n,e,hl,t0,t1⟩:=two_agg Tryz.underlying25 ht
 simp only [Prod.mk.injEq] at e
 obtain ⟨rfl,rfl⟩:=e
 rw [c25] at hl
 obtain ⟨a,b,rfl⟩:=len2 hl
 simp only [c22,c23,List.drop,List.take] at t0 t1
 have b0:=bulk_agg [y0.1,y1.1] y0.1 (by simp)
 have b1:=bulk_agg [y0.1,y1.1] y1.1 (by simp)
 obtain ⟨ρ1,h1,fe,V1,fs,e1,s1,l1,k1,v1,r1,n1,q1⟩:=s.rowQ (g:=fun s=>[.str s]) (S:=fun s d=>s.length<=uptoBulk d) (by omega) Tryz.underlying22 c9 t0 gb el_str
 obtain ⟨ρ2,h2,le,V2,ls,e2,s2,l2,k2,v2,r2,n2,q2⟩:=s1.rowQ (g:=PLetter.cells) (S:=fun s _=>I32 s.rune/\U32 s.plus/\U32 s.minus) (by omega) Tryz.underlying23 c85 t1 gb el_letter
 simp only [List.cons.injEq,and_true] at e1 e2
 subst e1 e2
 refine ⟨ρ2,h2,fe,le,⟨fs,ls⟩,s2,Rho.le_trans l1 l2,k1.trans k2,⟨_,rfl,a,[b],rfl,VRel.mono l2 _ _ v1,b,[],rfl,v2,rfl⟩,⟨?_,r2,?_,?_,?_,?_⟩⟩
 ·have:=r1.mono k2
  show Row h2 1 _ ((List.map _ _).map _)
  rw [List.map_map];exact this
 ·show fs.length<=_;omega
 ·show ls.length<=_;omega
 ·intro l hl'
  obtain ⟨_,hq,_⟩:=q2 l hl'
  exact hq
 ·intro f hf
  obtain ⟨d,hq,hq'⟩:=q1 f hf
  omega
theorem Seen.auto (s:Seen ρ h w) {V:Value} {d:DataW H} {ps:List MemPlace} (hv:∃ cs,V=.agg cs) (ht:DataW.Trod enc PP w 0 (fun _=>true) held 29 V d ps) (gb:HasCells w) (hb:uptoBulk d<=1048576) :
  ∃ ρ' h' en mo X,Seen ρ' h' w/\ρ.le ρ'/\Hle h h'/\VRel ρ' (aV (PAuto.states X) en mo) V/\IsAuto h' en mo X/\X.ends.length<=1048576/\X.moves.length<=1048576:=by
 obtain ⟨⟨cs⟩,rfl⟩:=hv
 obtain ⟨fuel,ht⟩:=ht
 simp only [Value.cells] at ht
 obtain ⟨y0,y1,y2,n,e,hl,t0,t1,t2⟩:=trod_struct3 Tryz.underlying29 ht
 simp only [Prod.mk.injEq] at e
 obtain ⟨rfl,rfl⟩:=e
 rw [c29] at hl
 obtain ⟨a,b,c,rfl⟩:=len3 hl
 simp only [c3',c26,c27,List.drop,List.take] at t0 t1 t2
 have b1:=bulk_agg [y0.1,y1.1,y2.1] y1.1 (by simp)
 have b2:=bulk_agg [y0.1,y1.1,y2.1] y2.1 (by simp)
 obtain ⟨st,e0,rfl,w0⟩:=DataW.trod_int Tryz.underlying3 t0
 obtain ⟨ρ1,h1,en,V1,es,e1,s1,l1,k1,v1,r1,n1,q1⟩:=s.rowQ (g:=fun s=>[vI s]) (S:=fun s _=>I64 s) (by omega) Tryz.underlying26 c3' t1 gb el_int
 obtain ⟨ρ2,h2,mo,V2,ms,e2,s2,l2,k2,v2,r2,n2,q2⟩:=s1.rowQ (g:=PMove.cells) (S:=fun s _=>I64 s.src/\I64 s.dst/\I32 s.rune) (by omega) Tryz.underlying27 c62 t2 gb el_move
 simp only [List.cons.injEq,and_true] at e0 e1 e2
 subst e0 e1 e2
 have ne:es.length<=1048576:=by omega
 have nm:ms.length<=1048576:=by omega
 refine ⟨ρ2,h2,en,mo,⟨st,es,ms⟩,s2,Rho.le_trans l1 l2,k1.trans k2,⟨_,rfl,_,_,rfl,rel_int _ _ _,b,[c],rfl,VRel.mono l2 _ _ v1,c,[],rfl,v2,rfl⟩,⟨?_,r2,Nat.le_succ_of_le ne,Nat.le_succ_of_le nm,wf_i64 w0,?_,?_⟩,ne,nm⟩
 ·have:=r1.mono k2
  show Row h2 1 _ ((List.map _ _).map _)
  rw [List.map_map];exact this
 ·intro e he
  obtain ⟨_,hq,_⟩:=q1 e he
  exact hq
 ·intro m hm
  obtain ⟨_,hq,_⟩:=q2 m hm
  exact hq
end
end Go.Ab.Z
namespace Go.Proofs.YtnaccglcbfeenaaGreatDoor.AutoTwo
open Go Go.Proofs Go.ChangeShapes Go.WideShapes Go.ChangeAt Go.RowKit
open Go.Ab.Z (Seen HasCells IsAlpha IsAuto)
theorem own:ownKnob Tryz.prog.godebug=none:=by kernel_rfl
theorem laidOut:laidOutB Tryz.prog=true:=by kernel_rfl
theorem zeroRow:((begin Tryz.prog (fun _ _=>0) default).world.heap[0]?.bind Obj.row?).isSome=true:=by kernel_rfl
theorem someGlobals:0 < Tryz.prog.globals.size:=of_decide_eq_true (by kernel_rfl)
theorem hasCells {W:World} (h:World.ShapedOpen Tryz.prog W):HasCells W:=by
 obtain ⟨⟨z,t⟩,hz⟩:=Option.isSome_iff_exists.1 zeroRow
 obtain ⟨cs,h1,_⟩:=h.1 0 z t someGlobals hz
 exact ⟨0,cs,t,_,h1⟩
set_option maxRecDepth 100000 in
theorem contract (H:Type) (enc:TypeId×Value->H) (W:World) (base:Nat) (args:Array Value) (ds gs:List (DataW H)) (before:List MemPlace)
  (hval:∀ (j:Nat) t v,Tryz.f3.params[j]?=some t->args[j]?=some v->Value.okWide Tryz.prog W .any base t v)
  (hW:DataW.Whole enc Tryz.prog Tryz.f3.params.toList Rows.autoTwoSpec.vars false W args.toList ds gs before) (hc:HasCells W)
  (hb:Rows.uptoBulkAll (ds++gs)<=1048576) :
  Calls Tryz.prog 3 args W fun e W'=>∃ v,e=.returned v/\Rows.autoTwoSpec.post enc Tryz.prog Tryz.f3 false true false false W args v W':=by
 have hW':=hW
 obtain ⟨p,q,hA0,hV,rfl,hfz,hnd⟩:=hW
 have hA:DataW.TrodAll enc Tryz.prog W 0 (fun _=>true) true Tryz.f3.params.toList args.toList ds p:=hA0
 rw [Tryz.params3] at hA hval
 obtain ⟨v0,v1,v2,d0,d1,d2,p0,p1,p2,rfl,rfl,rfl,h0,h1,h2⟩:=trodAll_three hA
 obtain ⟨rfl,rfl⟩:=trodVars_none hV
 clear hA0
 simp only [List.append_nil] at hW' hb
 have hlt:∀ x∈p0++p1++p2,x.block < W.heap.size:=fun x hx=>hW'.lt x hx
 obtain ⟨cs0,e0,_⟩:=okWide_struct Tryz.underlying25 (hval 0 25 v0 rfl rfl)
 obtain ⟨cs1,e1,_⟩:=okWide_struct Tryz.underlying29 (hval 1 29 v1 rfl rfl)
 obtain ⟨cs2,e2,_⟩:=okWide_struct Tryz.underlying29 (hval 2 29 v2 rfl rfl)
 have b0:Rows.uptoBulk d0<=1048576:=Nat.le_trans (Go.Ab.Z.bulk_part (by simp)) hb
 have b1:Rows.uptoBulk d1<=1048576:=Nat.le_trans (Go.Ab.Z.bulk_part (by simp)) hb
 have b2:Rows.uptoBulk d2<=1048576:=Nat.le_trans (Go.Ab.Z.bulk_part (by simp)) hb
 obtain ⟨ρ1,g1,fe,le,A,s1,l1,k1,r1,a1⟩:=(Seen.start W).alpha ⟨_,e0⟩ h0 hc b0
 obtain ⟨ρ2,g2,en,mo,X,s2,l2,k2,r2,a2,x1,x2⟩:=s1.auto ⟨_,e1⟩ h1 hc b1
 obtain ⟨ρ3,g3,en',mo',Y,s3,l3,k3,r3,a3,y1,y2⟩:=s2.auto ⟨_,e2⟩ h2 hc b2
 have cf:=Go.Ab.Z.f3 (k:=fun v _=>v=.bool true) (a1.mono (k2.trans k3)) (a2.mono k3) a3 x1 x2 y1 y2 (fun _ _=>rfl)
 have run:=cf.2 ρ3 W [v0,v1,v2] s3.sim ⟨_,_,rfl,Go.Ab.VRel.mono (Go.Ab.Rho.le_trans l2 l3) _ _ r1,_,_,rfl,Go.Ab.VRel.mono l3 _ _ r2,_,_,rfl,r3,rfl⟩
 refine run.mono ?_
 rintro e W' ⟨V,v,h',ρ',rfl,hr,_,ex,rfl⟩
 obtain rfl:V=.bool true:=hr
 have hbelow:Below W.heap.size W W':=⟨ex.os,ex.tape,ex.output,ex.size,fun B hB=>ex.frame B hB (by
  rintro ⟨id,b,L,hg,hw,_⟩
  exact s3.ro id b hg hw)⟩
 refine ⟨_,rfl,[d0,d1,d2],[],_,[],p0++(p1++p2),[],hW',?_,?_,rfl,hbelow.frame _,fun h=>by cases h⟩
 ·exact trodAll_mk1 (shut_bool Tryz.underlying4 _)
 ·exact trodAll_mk3 (Below.trod laidOut (by kernel_rfl) (of_decide_eq_true (by kernel_rfl)) h0 hbelow (fun x hx=>hlt x (by simp [hx])))
   (Below.trod laidOut (by kernel_rfl) (of_decide_eq_true (by kernel_rfl)) h1 hbelow (fun x hx=>hlt x (by simp [hx])))
   (Below.trod laidOut (by kernel_rfl) (of_decide_eq_true (by kernel_rfl)) h2 hbelow (fun x hx=>hlt x (by simp [hx])))
end Go.Proofs.YtnaccglcbfeenaaGreatDoor.AutoTwo
namespace Go.Proofs.YtnaccglcbfeenaaGreatDoor.AutoTwo
open Go Go.Proofs Go.ChangeShapes Go.WideShapes Go.ChangeAt Go.RowKit
def nums:DataW Unit->List Value
 | .lit (.int k n)=>[.int k n]
 | _=>[]
def nums2:DataW Unit->List Value
 | .lit (.int k n)=>[.int k n]
 | .agg ds=>ds.flatMap nums
 | _=>[]
def nums3:DataW Unit->List Value
 | .agg ds=>ds.flatMap nums2
 | _=>[]
noncomputable def laidHeap (hp:Array Obj):Array Obj :=
 (hp.modify 0 fun
   | .cells _ t frozen=>.cells ⟨nums3 Rows.laid_unicode_utf8_first⟩ t frozen
   | o=>o).modify 1 fun
   | .cells _ t frozen=>.cells ⟨nums3 Rows.laid_unicode_utf8_acceptRanges⟩ t frozen
   | o=>o
noncomputable def laidWorld (os:Os):World :=
 { World.holding Tryz.prog os ⟨#[],#[],[]⟩ with heap:=laidHeap (World.holding Tryz.prog os ⟨#[],#[],[]⟩).heap }
abbrev wit:Array Value:=#[.agg #[.slice none 0 0,.slice none 0 0],.agg #[.int .i64 0,.slice none 0 0,.slice none 0 0],.agg #[.int .i64 0,.slice none 0 0,.slice none 0 0]]
theorem laid_met (os:Os):laidMet Tryz.prog Rows.autoTwoUptoRow.laid ((laidWorld os).forCall (fun _ _=>0) ⟨#[],wit,[]⟩).memory :=
 laidMet_of_run' 8 (by kernel_rfl) (by kernel_rfl)
theorem reads (os:Os) {H:Type} (enc:TypeId×Value->H):∃ places,DataW.whole enc Tryz.prog ((laidWorld os).forCall (fun _ _=>0) ⟨#[],wit,[]⟩).memory Tryz.f3.params.toList Rows.autoTwoSpec.vars false wit.toList 8=some ([.agg [.nil,.nil],.agg [.lit (.int .i64 0),.nil,.nil],.agg [.lit (.int .i64 0),.nil,.nil]],[],places) :=
 ⟨[],by kernel_rfl⟩
set_option maxRecDepth 100000 in
theorem liftedUpto (os:Os) (started:os.Started) (H:Type) (enc:TypeId×Value->H) (F:Stop.Interp) :
  ReturnsInHanded {} Tryz.checked os 3 .any ((Rows.OpenSpec.upto Rows.autoTwoSpec).preRow enc Tryz.prog Tryz.f3 Rows.autoTwoUptoRow.domain false Rows.autoTwoUptoRow.laid) (((Rows.OpenSpec.upto Rows.autoTwoSpec).at F).post enc Tryz.prog Tryz.f3 false true false false):=by
 obtain ⟨places,hx⟩:=reads os enc
 refine returnsInHanded_of_row (C:=Tryz.checked) (s:=Rows.OpenSpec.upto Rows.autoTwoSpec) own started (by kernel_rfl) Tryz.func3
  (witness_row_at (enc:=enc) (C:=Tryz.checked) false (laidWorld os) wit rfl (by kernel_rfl) (by kernel_rfl) (by kernel_rfl)
   (OpenSpec.preRow_of_cond 8 hx (by kernel_rfl) (fun k hk=>by cases hk;kernel_rfl) (by kernel_rfl) (laid_met os))) ?_
 intro W base args ds gs before hval hW _ hcond _ _ hsh _
 exact contract H enc W base args ds gs before hval hW (hasCells hsh) (of_decide_eq_true (hcond _ rfl))
theorem saidUpto:Rows.AutoTwoUptoSaid :=
 OpenClaim.holds_of_cond 3 Tryz.f3 rfl rfl rfl rfl rfl rfl rfl ⟨rfl,rfl,rfl,rfl,rfl⟩ rfl rfl rfl rfl rfl (by kernel_rfl) Tryz.func3 (by kernel_rfl)
  (of_decide_eq_true (by kernel_rfl)) (by unfold Func.isWrapper;first | (rw [if_pos (by decide +kernel)];kernel_rfl) | (rw [if_neg (by decide +kernel)];exact ⟨rfl,rfl⟩))
  (fun os started H enc _ F=>by rw [OpenClaim.pre_eq_preRow];exact liftedUpto os started H enc F)
theorem plain (f:FuncId) (fn:Func) (hf:Tryz.pinned.checked.prog.funcNamed "cognate/cognatelaw06.AutoTwo"=some f) (hfn:Tryz.pinned.checked.prog.funcs[f]?=some fn) :
  false=Tryz.pinned.checked.prog.looks []/\∀ (j:Nat) t,fn.params[j]?=some t->Tryz.pinned.checked.prog.wantsStandIn t=false:=by
 obtain rfl:f=3:=Option.some.inj ((show Tryz.prog.funcNamed "cognate/cognatelaw06.AutoTwo"=some 3 by kernel_rfl).symm.trans hf) |>.symm
 obtain rfl:fn=Tryz.f3:=(Option.some.inj (Tryz.func3.symm.trans hfn)).symm
 refine ⟨by kernel_rfl,fun j t ht=>?_⟩
 rw [Tryz.params3] at ht
 have hm:t∈[25,29,29]:=by simpa using Array.mem_of_getElem? ht
 simp only [List.mem_cons,List.mem_nil_iff,or_false] at hm
 rcases hm with rfl | rfl | rfl
 ·exact (show Tryz.prog.wantsStandIn 25=false by kernel_rfl)
 ·exact (show Tryz.prog.wantsStandIn 29=false by kernel_rfl)
 ·exact (show Tryz.prog.wantsStandIn 29=false by kernel_rfl)
theorem autoTwo_card:Rows.AutoTwoUptoCardSaid :=
 Claim7.holds_tied_plain_at .later [] _ _ _ _ saidUpto (fun _ h=>by cases h) (by kernel_rfl) (fun _ h=>by cases h) autoTwoUpto_row_tie rfl ⟨rfl,rfl⟩ (by kernel_rfl) rfl plain (by kernel_rfl)
end Go.Proofs.YtnaccglcbfeenaaGreatDoor.AutoTwo
