/- Part 6 of the proof of Rows.AutoTwoUptoCardSaid (the conditions: those of the given row alone). Laid by program (pack.py) out of the texts in wip/, remarks left out. -/
import Derived.Test.YtnaccglcbfeenaaGreatDoorT5
set_option linter.unusedSimpArgs false
set_option linter.unusedVariables false
set_option maxHeartbeats 1000000
namespace Go.Ab.Z
open Go Go.Ab
variable {h h':AHeap} {k:Post} {R:List (List Int)} {E:List Bool}
def endI (E:List Bool) (s:Nat):Int:=if E.getD s false=true then 1 else 0
theorem endD (E:List Bool) (s:Nat):E.getD s false=true↔E[s]?=some true:=by
 rw [List.getD_eq_getElem?_getD]
 cases E[s]? with
 | none=>simp
 | some b=>simp
theorem endI_eq {s t:Nat} (h:endI E s=endI E t):E[s]?=some true↔E[t]?=some true:=by
 unfold endI at h
 rw [<-endD,<-endD]
 by_cases a:E.getD s false=true<;>by_cases b:E.getD t false=true<;>simp only [a,b,if_true,if_false] at h ⊢<;>simp at h ⊢
def keyR (R:List (List Int)) (E:List Bool) (now:List Int) (s:Nat):List Int:=now.getD s (-1) :: endI E s :: (R.getD s []).map (valP now)
theorem keyR_bd {now:List Int} (o:NowOk R E now) (s:Nat):∀ x∈keyR R E now s,-1<=x/\x < 65000:=by
 intro x hx
 unfold keyR at hx
 rcases List.mem_cons.1 hx with rfl | hx
 ·have:=o.neg s;have:=o.top s;omega
 rcases List.mem_cons.1 hx with rfl | hx
 ·unfold endI;split<;>omega
 ·obtain ⟨t,_,rfl⟩:=List.mem_map.1 hx
  have:=o.val t;omega
def ksR (R:List (List Int)) (E:List Bool) (now:List Int):List (Option (List UInt8)):=(List.range R.length).map fun s=>if now.getD s (-1) < 0 then none else some (keyBytes (keyR R E now s))
theorem ksR_get {now:List Int} {s:Nat} (hs:s < R.length) (h:0<=now.getD s (-1)):(ksR R E now)[s]?=some (some (keyBytes (keyR R E now s))):=by
 unfold ksR
 rw [List.getElem?_map,List.getElem?_range hs]
 simp only [Option.map_some]
 rw [if_neg (by omega)]
theorem ksR_none {now:List Int} {s:Nat} (hs:s < R.length) (h:now.getD s (-1) < 0):(ksR R E now)[s]?=some none:=by
 unfold ksR
 rw [List.getElem?_map,List.getElem?_range hs]
 simp only [Option.map_some]
 rw [if_pos h]
theorem ksR_some {now:List Int} {s:Nat} {c:List UInt8} (h:(ksR R E now)[s]?=some (some c)):s < R.length/\0<=now.getD s (-1)/\c=keyBytes (keyR R E now s):=by
 have hs:s < R.length:=by have:=(List.getElem?_eq_some_iff.1 h).1;simpa [ksR] using this
 unfold ksR at h
 rw [List.getElem?_map,List.getElem?_range hs] at h
 simp only [Option.map_some,Option.some.injEq] at h
 split at h
 ·cases h
 ·cases h
  exact ⟨hs,by omega,rfl⟩
theorem keysR {now:List Int} {L:Nat} (o:NowOk R E now) (hL:∀ r∈R,r.length=L):Keys R E now (ksR R E now):=by
 have rl:∀ {s:Nat},s < R.length->(R.getD s []).length=L:=fun {s} hs=>by rw [List.getD_eq_getElem?_getD,List.getElem?_eq_getElem hs];exact hL _ (List.getElem_mem hs)
 have inj:∀ {s t:Nat} {c:List UInt8},(ksR R E now)[s]?=some (some c)->(ksR R E now)[t]?=some (some c)->now.getD s (-1)=now.getD t (-1)/\endI E s=endI E t/\(R.getD s []).map (valP now)=(R.getD t []).map (valP now):=by
  intro s t c h1 h2
  obtain ⟨s1,s2,s3⟩:=ksR_some h1
  obtain ⟨t1,t2,t3⟩:=ksR_some h2
  rw [s3] at t3
  have:=keyBytes_inj (keyR_bd o s) (keyR_bd o t) t3
  unfold keyR at this
  injection this with e1 e2
  injection e2 with e2 e3
  exact ⟨e1,e2,e3⟩
 refine ⟨by simp [ksR],fun s hs=>?_,fun s t c h1 h2=>(inj h1 h2).1,fun s t c h1 h2=>endI_eq (inj h1 h2).2.1,fun s t c h1 h2 k=>.inl ?_,fun s t c d h1 h2 h3 h4 h5=>?_⟩
 ·rw [<-o.co.marks s]
  constructor
  ·intro h hp
   rw [ksR_get hs hp] at h;cases h
  ·intro h;exact ksR_none hs (by omega)
 ·have e:=congrArg (fun l=>l[k]?) (inj h1 h2).2.2
  simp only [List.getElem?_map] at e
  rw [behind_val,behind_val]
  cases hs:(R.getD s [])[k]? with
  | none =>
   rw [hs] at e
   cases ht:(R.getD t [])[k]? with
   | none=>rfl
   | some b=>rw [ht] at e;cases e
  | some a =>
   rw [hs] at e
   cases ht:(R.getD t [])[k]? with
   | none=>rw [ht] at e;cases e
   | some b=>rw [ht] at e;simpa using e
 ·obtain ⟨s1,s2,s3⟩:=ksR_some h1
  obtain ⟨t1,t2,t3⟩:=ksR_some h2
  rw [s3,t3]
  congr 1
  unfold keyR
  rw [h3]
  congr 1
  have ee:endI E s=endI E t:=by
   unfold endI
   rw [<-endD,<-endD] at h4
   by_cases a:E.getD s false=true
   ·rw [if_pos a,if_pos (h4.1 a)]
   ·rw [if_neg a,if_neg fun b=>a (h4.2 b)]
  rw [ee]
  congr 1
  apply List.ext_getElem?
  intro k
  rw [List.getElem?_map,List.getElem?_map]
  have:=o.beh (h5 k)
  rw [behind_val,behind_val] at this
  by_cases hk:k < L
  ·rw [List.getElem?_eq_getElem (by rw [rl s1];exact hk),List.getElem?_eq_getElem (by rw [rl t1];exact hk)] at this ⊢
   simp only at this
   simp only [Option.map_some,Option.some.injEq]
   exact this
  ·rw [List.getElem?_eq_none (by rw [rl s1];omega),List.getElem?_eq_none (by rw [rl t1];omega)]
theorem kd9i:Kd (List UInt8) Int K9 .str vI:=⟨kd9.fit,kd9.ptr,kd9.eq⟩
theorem MemC.grown {κ:Type} [DecidableEq κ] {K:KeyT} {ek:κ->AVal} {h₀:AHeap} {n:Nat} {nv xv:AVal} {mb:Nat} {now next:List Int} {m:List (κ×Int)} (M:MemC K ek h₀ h n nv xv mb now next m) (w₀:WF h₀) {a:AVal} (g:Grown a h h') (w':WF h')
  (ka:a=.nils\/∃ b o l c z,a=.slice b o l c z) (ha:∀ j∈blkOf a,h₀.next<=j/\j∉blkOf nv/\j∉blkOf xv/\j≠mb):MemC K ek h₀ h' n nv xv mb now next m:=by
 have kp:∀ j,j∉blkOf a->Kp h h' j:=fun j hj=>grown_kp g M.wf ka hj
 refine ⟨w',⟨by rw [g.next];have:=M.hle.next;omega,fun j x e=>?_⟩,own_kp M.now fun j hj=>kp j fun hk=>(ha j hk).2.1 hj,own_kp M.next fun j hj=>kp j fun hk=>(ha j hk).2.2.1 hj,?_,M.gn,M.gx,M.gm⟩
 ·exact kp j (fun hk=>by have:=(ha j hk).1;have:=w₀.lt e;omega) x (M.hle.get j x e)
 ·refine M.map.keep (g.get mb (M.map.lt M.wf) ?_)
  rcases ka with e | ⟨b,o,l,c,z,rfl⟩
  ·exact .inl e
  ·right;intro e;exact (ha mb (by rw [e];simp [blkOf])).2.2.2 rfl
end Go.Ab.Z
namespace Go.Ab.Z
open Go Go.Ab
variable {h h':AHeap} {k:Post} {to en:AVal} {R:List (List Int)} {E:List Bool}
theorem idxK_lt {κ:Type} [DecidableEq κ] {l:List κ} {c:κ} (h:c∈l):idxK l c < l.length:=List.idxOf_lt_length_of_mem h
theorem f123 {L:Nat} (hG:IsGraph h to en R E) (hE:E.length=R.length) (hne:R≠[]) (hb:∀ r∈R,∀ t∈r,t < (R.length:Int)) (rl:∀ r∈R,r.length=L) (hL:L<=128) (hn:R.length<=4200)
  (H:∀ h' v,WF h'->Hle h h'->ORow h' 1 v R.length ((canonC R E).map vI)->(∀ j∈blkOf v,h.next<=j)->k v h'):Cf 123 [.agg [to,en]] h k:=by
 refine use_code compiled123 fun hw=>?_
 have hpos:0 < R.length:=by cases R with | nil=>exact absurd rfl hne | cons _ _=>simp
 have tl:∀ h',lenA .row to h'=some (.int .i64 (R.length:Int)):=fun h'=>by
  obtain ⟨vs,e,r,_⟩:=hG.to
  have:=r.len h';rw [e] at this;exact this
 have hw0:=hw.newCells [to,en]
 have le0:=Hle.newCells hw [to,en]
 have v0:=Blk.new h [to,en]
 have G0:=hG.mono le0
 have rd0:(h.newCells [to,en]).read h.next 0 2=some [to,en]:=v0.rd (off:=0) (n:=2) (l:=[to,en]) (by simp) rfl
 have c00:=v0.rd1 (i:=0) (c:=to) rfl
 simp [fn123,rd0]
 refine f160 G0 hE hne hb (fun r hr=>by rw [rl r hr];exact hL) hn fun h2 ob out w2 le2 hob ol oiff oo=>?_
 have c02:=(v0.mono le2).rd1 (i:=0) (c:=to) rfl
 have gg:(h.newCells [to,en]).next=h.next+1:=by simp
 generalize hg0:h.newCells [to,en]=g0 at *
 simp [c02,tl,repeatL_one]
 rw [decide_eq_true (by omega:R.length<=16777216)]
 simp
 have w3:=w2.newCells (List.replicate R.length (vI 0))
 have le3:=le2.trans (Hle.newCells w2 (List.replicate R.length (vI 0)))
 have n0:ORow (h2.newCells (List.replicate R.length (vI 0))) 1 (.slice h2.next 0 R.length R.length 1) R.length ((List.replicate R.length (0:Int)).map vI):=by
  rw [List.map_replicate]
  exact ORow.fresh h2 (by simp)
 have oo3:=oo.mono (Hle.newCells w2 (List.replicate R.length (vI 0)))
 have hnb:ob < h2.next:=own_lt oo w2 ob (by simp [blkOf])
 have hge2:=le2.next
 have oo3':ORow (h2.newCells (List.replicate R.length (.int .i64 0))) 1 (.slice ob 0 R.length R.length 1) R.length (out.map .bool):=oo3
 generalize hnv:(AVal.slice h2.next 0 R.length R.length 1)=nv0 at *
 generalize hov:(AVal.slice ob 0 R.length R.length 1)=ov at *
 have bn:blkOf nv0=[h2.next]:=by rw [<-hnv];rfl
 have bnr:rowB nv0=h2.next:=by rw [<-hnv];rfl
 have bo:blkOf ov=[ob]:=by rw [<-hov];rfl
 rw [L123_1]
 refine loop_by (σ:=Nat) (fun i h'=>i<=R.length/\WF h'/\Hle g0 h'/\ORow h' 1 ov R.length (out.map .bool)/\∃ cur:List Int,ORow h' 1 nv0 R.length (cur.map vI)/\cur.length=R.length /\
   ∀ s:Nat,s < i->cur[s]?=some (if out.getD s false=true then 0 else -1))
  (fun i=>[(1,.ptr h.next 0),(3,ov),(4,nv0),(5,.int .i64 1),(6,.int .i64 i)]) (fun i=>R.length - i) 0 (by simp) ?_ ?_
 ·exact ⟨Nat.zero_le _,w3,le3,oo3,_,n0,by simp,fun s hs=>by omega⟩
 clear n0 w3 oo3 oo3' oo w2
 rintro i h3 K ⟨hi,w3,le3,oo,cur,oc,cl,cd⟩ hK
 have ncl:=oc.len
 simp [ncl]
 refine ap_split (fun hc=>?_) (fun hc=>?_)
 ·have hc:i < R.length:=by omega
  have hio:i < out.length:=by omega
  have c1:=oc.idx hc .i64
  rw [Nat.mul_one] at c1
  have wr:wrapF .i64 ((i:Int)+1)=(i:Int)+1:=wrap64 (by omega) (by omega)
  have step:∀ {h3:AHeap} {cur:List Int} (x:Int),WF h3->Hle g0 h3->ORow h3 1 ov R.length (out.map .bool)->ORow h3 1 nv0 R.length (cur.map vI) ->
    ∃ h4,h3.write (rowB nv0) i [.int .i64 x]=some h4/\WF h4/\Hle g0 h4/\ORow h4 1 ov R.length (out.map .bool)/\ORow h4 1 nv0 R.length ((cur.set i x).map vI):=by
   intro h3 cur x w3 le3 oo oc
   obtain ⟨h4,a1,a2,a3⟩:=oc.write1 (i:=i) (c:=vI x) hc rfl
   have hlt:=own_lt oc w3 h2.next (by rw [bn];simp)
   rw [bnr] at a3
   exact ⟨h4,a1,a3.wf w3 hlt,a3.hle le3 hw0 (by omega),own_kp oo fun j hj=>But.kp a3 (by rw [bo] at hj;simp at hj;omega),by rw [List.map_set];exact a2⟩
  obtain ⟨h4,a1,a2,a3,a4,a5⟩:=step (-1) w3 le3 oo oc
  have o1:=a4.idx hc .i64
  rw [Nat.mul_one] at o1
  obtain ⟨orest,orr⟩:=a4.blk hpos
  have o2:=orr.rd1 (i:=i) (c:=.bool out[i]) (by rw [List.getElem?_append_left (by simpa using hio)];simp [hio])
  simp [c1,a1,o1,o2]
  refine ap_cases (fun hq=>?_) (fun hq=>?_)
  ·obtain ⟨h5,b1,b2,b3,b4,b5⟩:=step 0 a2 a3 a4 a5
   simp [c1,b1,wr]
   refine hK (i+1) _ _ (by omega) (by simp) ⟨by omega,b2,b3,b4,_,b5,by simp [cl],fun s hs=>?_⟩
   by_cases e:s=i
   ·subst e;simp [hio,hq,cl,hc]
   ·rw [List.getElem?_set_ne (by omega),List.getElem?_set_ne (by omega)];exact cd s (by omega)
  ·simp [wr]
   refine hK (i+1) _ _ (by omega) (by simp) ⟨by omega,a2,a3,a4,_,a5,by simp [cl],fun s hs=>?_⟩
   by_cases e:s=i
   ·subst e;simp [hio,hq,cl,hc]
   ·rw [List.getElem?_set_ne (by omega)];exact cd s (by omega)
 ·have:i=R.length:=by omega
  subst this
  have curD:∀ s:Nat,cur.getD s (-1)=if out.getD s false=true then 0 else -1:=by
   intro s
   rw [List.getD_eq_getElem?_getD]
   by_cases hs:s < R.length
   ·rw [cd s hs];rfl
   ·rw [List.getElem?_eq_none (by omega)]
    have:out.getD s false=false:=by rw [List.getD_eq_getElem?_getD,List.getElem?_eq_none (by omega)];rfl
    rw [this];rfl
  have outL:∀ s:Nat,out.getD s false=true↔Live R E s:=by
   intro s
   by_cases hs:s < out.length
   ·rw [List.getD_eq_getElem?_getD,List.getElem?_eq_getElem hs];exact oiff s hs
   ·rw [List.getD_eq_getElem?_getD,List.getElem?_eq_none (by omega)]
    constructor
    ·intro h;cases h
    ·intro h;exact absurd (live_lt hE h) (by omega)
  have ok0:NowOk R E cur:=by
   refine ⟨⟨cl,fun s=>?_,fun s t hl hmn=>?_⟩,fun s hs=>?_,fun s=>?_⟩
   ·rw [curD,<-outL s]
    by_cases a1:out.getD s false=true<;>simp only [a1,if_true,if_false]<;>simp
   ·have hl':Live R E t:=by
     obtain ⟨w,hw⟩:=live_acc.1 hl
     exact live_acc.2 ⟨w,(hmn w).1 hw⟩
    rw [curD,curD,(outL s).2 hl,(outL t).2 hl']
   ·rw [curD] at hs ⊢
    by_cases a1:out.getD s false=true<;>simp only [a1,if_true,if_false] at hs ⊢<;>first | omega | simp at hs
   ·rw [curD]
    by_cases a1:out.getD s false=true<;>simp only [a1,if_true,if_false]<;>first | omega | simp
  simp
  clear hK K ncl
  rw [L123_2]
  refine loop_by (σ:=AVal×Nat) (fun st h'=>WF h'/\Hle g0 h'/\st.2<=R.length/\∃ now:List Int,ORow h' 1 st.1 R.length (now.map vI)/\(∀ j∈blkOf st.1,g0.next<=j)/\NowOk R E now /\
    (st.2=1\/∃ (was:List Int) (ls:List (Option (List UInt8))),Keys R E was ls/\now=numb ls []/\st.2=(numbS ls []).length))
   (fun st=>[(1,.ptr h.next 0),(4,st.1),(5,.int .i64 st.2)]) (fun st=>R.length - st.2) (nv0,1) (by simp) ?_ ?_
  ·exact ⟨w3,le3,by simp;omega,cur,oc,fun j hj=>by rw [bn] at hj;simp at hj;omega,ok0,.inl rfl⟩
  clear oc oo w3 le3 ok0 curD outL cd cl bn bo bnr oiff ol hob hnv hov hge2 hnb c02 le2
  rintro ⟨nv,many⟩ h3 K ⟨w3,le3,hmany,now,on,gn,ok,hist⟩ hK
  simp only at hmany on gn hist hK
  have nl:=on.len
  have nwl:now.length=R.length:=ok.co.len
  have hge3:=le3.next
  have wm:=w3.new (.map 9 [] 0)
  have lem:=Hle.new w3 (.map 9 [] 0)
  have hw5:=wm.newCells (List.replicate R.length (vI 0))
  have le5:=lem.trans (Hle.newCells wm (List.replicate R.length (vI 0)))
  simp [nl,repeatL_one]
  rw [decide_eq_true (by omega:R.length<=16777216)]
  simp
  have K1:=keysR ok rl
  have C0:MemC K9 AVal.str g0 ((h3.new (.map 9 [] 0)).newCells (List.replicate R.length (vI 0))) R.length nv (.slice (h3.next+1) 0 R.length R.length 1) h3.next now (List.replicate R.length 0) []:=by
   refine ⟨hw5,le3.trans le5,on.mono le5,?_,(MapOf.new (K:=K9) (ek:=AVal.str) (ev:=vI) h3).mono (Hle.newCells wm _),gn,fun j hj=>?_,⟨by omega,fun hj=>by have:=own_lt on w3 _ hj;omega,by simp [blkOf]⟩⟩
   ·rw [List.map_replicate];exact ORow.fresh (h3.new (.map 9 [] 0)) (by simp)
   ·simp [blkOf] at hj;subst hj
    exact ⟨by omega,fun hj=>by have:=own_lt on w3 _ hj;omega⟩
  have bx:blkOf (AVal.slice (h3.next+1) 0 R.length R.length 1)=[h3.next+1]:=rfl
  generalize (AVal.slice (h3.next+1) 0 R.length R.length 1)=xv at *
  generalize h3.next=mb at *
  rw [L123_3]
  refine loop_by (σ:=Nat) (fun i h'=>i<=R.length/\∃ next m,MemC K9 AVal.str g0 h' R.length nv xv mb now next m/\next.length=R.length/\next.take i=numb ((ksR R E now).take i) []/\MapS m (numbS ((ksR R E now).take i) []) 1)
   (fun i=>[(1,.ptr h.next 0),(4,nv),(5,.int .i64 many),(7,.map mb),(8,xv),(9,.int .i64 i)]) (fun i=>R.length - i) 0 (by simp) ?_ ?_
  ·exact ⟨Nat.zero_le _,_,[],C0,by simp,by simp [numb],by simp [numbS];exact MapS.nil 1⟩
  clear C0 hw5 le5 lem wm on nl hge3 w3 le3
  rintro i h4 K2 ⟨hi,next,mp,C,xl,xt,ms⟩ hK2
  have nl:=C.now.len
  simp [nl]
  refine ap_split (fun hc=>?_) (fun hc=>?_)
  ·have hc:i < R.length:=by omega
   obtain ⟨x,a1,a2,a3⟩:=G0.to.get hc
   have xll:=a3.len
   simp only [List.length_map] at xll
   have hrl:R[i].length=L:=rl _ (List.getElem_mem hc)
   obtain ⟨h5,s1,C5⟩:=C.set hw0 hc (-1)
   have s0:=C.next.idx hc .i64
   rw [Nat.mul_one] at s0
   obtain ⟨n1,n2⟩:=orow_rd (i:=i) C5.now (by omega) hc
   have gdi:now.getD i (-1)=now[i]:=by rw [List.getD_eq_getElem?_getD,List.getElem?_eq_getElem (by omega)];rfl
   have wr:wrapF .i64 ((i:Int)+1)=(i:Int)+1:=wrap64 (by omega) (by omega)
   simp [s0,s1,n1,n2]
   refine ap_split (fun hd=>?_) (fun hd=>?_)
   ·simp [wr]
    have kn:=ksR_none (R:=R) (E:=E) (now:=now) hc (by rw [gdi];exact hd)
    refine hK2 (i+1) _ _ (by omega) (by simp) ⟨by omega,_,mp,C5,by simp [xl],?_,?_⟩
    ·rw [take_set_succ (by omega),take_snoc kn,numb_none',xt]
    ·rw [take_snoc kn,numbS_none'];exact ms
   ·have hpos':0<=now.getD i (-1):=by rw [gdi];omega
    have rgd:R.getD i []=R[i]:=by rw [List.getD_eq_getElem?_getD,List.getElem?_eq_getElem hc];rfl
    have kc:=ksR_get (R:=R) (E:=E) hc hpos'
    have kdef:keyR R E now i=now[i] :: endI E i :: R[i].map (valP now):=by unfold keyR;rw [rgd,gdi]
    have hiE:i < E.length:=by omega
    have w6:=C5.wf.newCells [vI now[i],vI 0]
    have le6:=Hle.newCells C5.wf [vI now[i],vI 0]
    have C6:=C5.mono w6 le6
    have o6:ORow (h5.newCells [vI now[i],vI 0]) 1 (.slice h5.next 0 2 2 1) 2 (([now[i],0]:List Int).map vI):=ORow.fresh h5 (by simp)
    have hg5:=C5.hle.next
    have fr6:∀ j∈blkOf (.slice h5.next 0 2 2 1),g0.next<=j/\j∉blkOf nv/\j∉blkOf xv/\j≠mb:=by
     intro j hj
     simp [blkOf] at hj
     subst hj
     exact ⟨by omega,fun hj=>by have:=own_lt C5.now C5.wf _ hj;omega,fun hj=>by have:=own_lt C5.next C5.wf _ hj;omega,by have:=C5.map.lt C5.wf;omega⟩
    have i6:=o6.idx (i:=1) (by omega) .i64
    have c1:=(v0.mono C6.hle).rd1 (i:=1) (c:=en) rfl
    have e1:=hG.en.idx (i:=i) (by simpa using hiE) .i64
    have e2:=(G0.en.mono C6.hle).rd (i:=i) (c:=.bool E[i]) (by simp [hiE])
    simp only [vI] at c1 e2
    simp [n1,n2,listPut,c1,e1,e2]
    have mid:∀ (h6:AHeap) (T:PT AVal),MemC K9 AVal.str g0 h6 R.length nv xv mb now (next.set i (-1)) mp->ORow h6 1 (.slice h5.next 0 2 2 1) 2 (([now[i],endI E i]:List Int).map vI) ->
      Has T [(1,.ptr h.next 0),(4,nv),(5,.int .i64 many),(7,.map mb),(8,xv),(9,.int .i64 i),(10,.slice h5.next 0 2 2 1)]->∀ {KN:Kn} {kx:Kx} {kr:Kn},
      (∀ (next':List Int) (mp':List (List UInt8×Int)) (h7:AHeap) (T':PT AVal),MemC K9 AVal.str g0 h7 R.length nv xv mb now next' mp'->next'.length=R.length->next'.take (i+1)=numb ((ksR R E now).take (i+1)) []->MapS mp' (numbS ((ksR R E now).take (i+1)) []) 1 ->
       Has T' [(1,.ptr h.next 0),(4,nv),(5,.int .i64 many),(7,.map mb),(8,xv),(9,.int .i64 i)]->KN T' h7)->run lpI c123_53 (cfP PP []) KN kx kr T h6:=by
     intro h6 T C6 o6 hT KN kx kr hKN
     obtain ⟨t1,t4,t5,t7,t8,t9,t10,_⟩:=hT
     simp at t1 t4 t5 t7 t8 t9 t10
     simp
     rw [L123_4]
     have o60:ORow h6 1 (.slice h5.next 0 2 2 1) (2+0) ((now[i] :: endI E i :: (R[i].take 0).map (valP now)).map vI):=by simpa using o6
     refine loop_by (σ:=Nat×AVal) (fun st h'=>st.1<=R[i].length/\MemC K9 AVal.str g0 h' R.length nv xv mb now (next.set i (-1)) mp/\ORow h' 1 st.2 (2+st.1) ((now[i] :: endI E i :: (R[i].take st.1).map (valP now)).map vI) /\
       ∀ j∈blkOf st.2,g0.next<=j/\j∉blkOf nv/\j∉blkOf xv/\j≠mb)
      (fun st=>[(1,.ptr h.next 0),(4,nv),(5,.int .i64 many),(7,.map mb),(8,xv),(9,.int .i64 i),(10,st.2),(11,.int .i64 st.1)]) (fun st=>R[i].length - st.1) (0,.slice h5.next 0 2 2 1) ?_ ?_ ?_
     ·refine ⟨?_,?_,?_,?_,?_,?_,?_,?_,trivial⟩<;>simp [PT.get_put,t1,t4,t5,t7,t8,t9,t10]
     ·exact ⟨Nat.zero_le _,C6,o60,fr6⟩
     clear o60 o6 C6 t1 t4 t5 t7 t8 t9 t10
     rintro ⟨j,a⟩ h8 K3 ⟨hj,C,oa,fr⟩ hK3
     simp only at hj C oa fr hK3
     have c0:=(v0.mono C.hle).rd1 (i:=0) (c:=to) rfl
     have b2:=read1_hle C.hle a2
     simp [c0,a1,b2,xll]
     refine ap_split (fun hq=>?_) (fun hq=>?_)
     ·have hq:j < R[i].length:=by omega
      have b1:=a3.idx (i:=j) (by simpa using hq) .i64
      have b3:=(a3.mono C.hle).rd (i:=j) (c:=vI R[i][j]) (by simp [hq])
      have wrj:wrapF .i64 ((j:Int)+1)=(j:Int)+1:=wrap64 (by omega) (by omega)
      have app:∃ h9,appendA (h8.newCells [.int .i64 (valP now R[i][j])]) 1 a (.slice h8.next 0 1 1 1)=some (some (.slice (h8.next+1) 0 (2+j+1) (2+j+1) 1),h9)/\MemC K9 AVal.str g0 h9 R.length nv xv mb now (next.set i (-1)) mp /\
        ORow h9 1 (.slice (h8.next+1) 0 (2+j+1) (2+j+1) 1) (2+(j+1)) ((now[i] :: endI E i :: (R[i].take (j+1)).map (valP now)).map vI)/\∀ y∈blkOf (.slice (h8.next+1) 0 (2+j+1) (2+j+1) 1),g0.next<=y/\y∉blkOf nv/\y∉blkOf xv/\y≠mb:=by
       have w4:=C.wf.newCells [vI (valP now R[i][j])]
       have le4:=Hle.newCells C.wf [vI (valP now R[i][j])]
       have mm:more (h8.newCells [vI (valP now R[i][j])]) 1 (.slice h8.next 0 1 1 1)=some (1,[vI (valP now R[i][j])]):=(ORow.fresh h8 (sz:=1) (n:=1) (cs:=[vI (valP now R[i][j])]) (by simp)).more
       obtain ⟨h9,e1,e2,e3,e4⟩:=(oa.mono le4).append w4 mm (by simp) (by omega) (by omega) (by rw [allOne_iff];intro x hx;simp at hx;subst hx;rfl)
       simp only [next_newCells] at e1 e2
       refine ⟨h9,e1,(C.mono w4 le4).grown hw0 e4 e3 (orow_kinds oa) fr,?_,fun y hy=>?_⟩
       ·rw [show 2+(j+1)=2+j+1 by omega,List.take_succ_eq_append_getElem hq]
        have ee:((now[i] :: endI E i :: (R[i].take j).map (valP now)).map vI)++[vI (valP now R[i][j])]=(now[i] :: endI E i :: (R[i].take j++[R[i][j]]).map (valP now)).map vI:=by simp only [List.map_cons,List.map_append,List.map_nil,List.cons_append]
        rw [<-ee];exact e2
       ·simp [blkOf] at hy
        subst hy
        have:=C.hle.next
        exact ⟨by omega,fun hj=>by have:=own_lt C.now C.wf _ hj;omega,fun hj=>by have:=own_lt C.next C.wf _ hj;omega,by have:=C.map.lt C.wf;omega⟩
      obtain ⟨h9,d1,d2,d3,d4⟩:=app
      have go:∀ T',Has T' [(1,.ptr h.next 0),(4,nv),(5,.int .i64 many),(7,.map mb),(8,xv),(9,.int .i64 i),(10,.slice (h8.next+1) 0 (2+j+1) (2+j+1) 1),(11,.int .i64 ((j:Int)+1))]->K3 T' h9:=fun T' hT' =>
       hK3 (j+1,.slice (h8.next+1) 0 (2+j+1) (2+j+1) 1) T' h9 (by simp;omega) (by simpa using hT') ⟨by simp;omega,d2,d3,d4⟩
      simp [c0,a1,b2,b1,b3,vI]
      refine ap_split (fun hr=>?_) (fun hr=>?_)
      ·have vt:valP now R[i][j]=-1:=by unfold valP;rw [if_pos (by omega)]
       rw [vt] at d1
       simp [listPut,d1,wrj]
       refine go _ ?_
       simp
      ·obtain ⟨t,ht⟩:=Int.eq_ofNat_of_zero_le (by omega:0<=R[i][j])
       have htl:t < R.length:=by have:=hb R[i] (List.getElem_mem hc) R[i][j] (List.getElem_mem hq);omega
       obtain ⟨y1,y2⟩:=orow_rd (i:=t) C.now (by omega) htl
       have gdt:now.getD t (-1)=now[t]:=by rw [List.getD_eq_getElem?_getD,List.getElem?_eq_getElem (by omega)];rfl
       have vt:valP now R[i][j]=now[t]:=by unfold valP;rw [ht,if_neg (by omega),Int.toNat_natCast,gdt]
       rw [vt] at d1
       rw [ht] at b3
       simp only [vI] at b3
       simp [c0,a1,b2,b1,b3,y1,y2,listPut,d1,wrj]
       refine go _ ?_
       simp
     ·have:j=R[i].length:=by omega
      subst this
      rw [List.take_length,<-kdef] at oa
      simp
      refine f122 oa.row1 (keyR_bd ok i) (by rw [kdef];simp;omega) fun h9 w9 le9=>?_
      have C9:=C.mono w9 le9
      have lk:=C9.map.lookup kd9i (keyBytes (keyR R E now i)) (.int .i64 0) false
      have ml:=C9.map.len
      have ml':(Go.Ab.ob (h9.get mb) fun y=>onEntries y fun _ es _=>some (AVal.int .i64 (es.length:Int)))=some (.int .i64 (mp.length:Int)):=by simpa using ml
      have s0':=C9.next.idx hc .i64
      rw [Nat.mul_one] at s0'
      have hmpl:mp.length<=4200:=by
       rw [ms.1]
       have:=numbS_le ((ksR R E now).take i)
       rw [List.length_take] at this;omega
      by_cases hin:keyBytes (keyR R E now i)∈numbS ((ksR R E now).take i) []
      ·rw [ms.old hin] at lk
       have hix:idxK (numbS ((ksR R E now).take i) []) (keyBytes (keyR R E now i)) < (numbS ((ksR R E now).take i) []).length:=idxK_lt hin
       rw [<-ms.1] at hix
       have lk:lookupA ⟨9,false,[.str]⟩ (.int .i64 0) false (.map mb) (.str (keyBytes (keyR R E now i))) h9=some (.int .i64 ((idxK (numbS ((ksR R E now).take i) []) (keyBytes (keyR R E now i)):Int)+1)):=lk
       obtain ⟨g1,e1,C2⟩:=C9.set hw0 hc (idxK (numbS ((ksR R E now).take i) []) (keyBytes (keyR R E now i)):Int)
       simp [lk]
       refine ap_split (fun hz=>by omega) (fun hz=>?_)
       have ws:wrapF .i64 (idxK (numbS ((ksR R E now).take i) []) (keyBytes (keyR R E now i)):Int)=(idxK (numbS ((ksR R E now).take i) []) (keyBytes (keyR R E now i)):Int):=wrap64 (by omega) (by omega)
       simp [ws,s0',e1]
       refine hKN _ mp g1 _ C2 (by simp [xl]) ?_ ?_ ?_
       ·rw [take_set_succ (by simp;omega),List.take_set_of_le (Nat.le_refl i),take_snoc kc,numb_some',xt]
       ·rw [take_snoc kc,numbS_old _ _ _ hin];exact ms
       ·simp
      ·rw [ms.new hin] at lk
       have lk:lookupA ⟨9,false,[.str]⟩ (.int .i64 0) false (.map mb) (.str (keyBytes (keyR R E now i))) h9=some (.int .i64 0):=lk
       obtain ⟨g0',e0,C1⟩:=C9.upd hw0 kd9i (keyBytes (keyR R E now i)) ((mp.length:Int)+1)
       have e0:updateA ⟨9,false,[.str]⟩ (.map mb) (.str (keyBytes (keyR R E now i))) (.int .i64 ((mp.length:Int)+1)) h9=some (none,g0'):=e0
       obtain ⟨g1,e1,C2⟩:=C1.set hw0 hc (mp.length:Int)
       have wm1:wrapF .i64 ((mp.length:Int)+1)=(mp.length:Int)+1:=wrap64 (by omega) (by omega)
       have ws:wrapF .i64 (mp.length:Int)=(mp.length:Int):=wrap64 (by omega) (by omega)
       simp [lk,ml',wm1,e0,ws,s0',e1]
       refine hKN _ _ g1 _ C2 (by simp [xl]) ?_ ?_ ?_
       ·rw [take_set_succ (by simp;omega),List.take_set_of_le (Nat.le_refl i),take_snoc kc,numb_some',xt,idxK_new hin,ms.1]
       ·rw [take_snoc kc,numbS_new _ _ _ hin]
        have:=ms.push hin
        rw [<-ms.1] at this
        exact this
       ·simp
    have done:∀ (h6:AHeap) (T:PT AVal),MemC K9 AVal.str g0 h6 R.length nv xv mb now (next.set i (-1)) mp->ORow h6 1 (.slice h5.next 0 2 2 1) 2 (([now[i],endI E i]:List Int).map vI) ->
      Has T [(1,.ptr h.next 0),(4,nv),(5,.int .i64 many),(7,.map mb),(8,xv),(9,.int .i64 i),(10,.slice h5.next 0 2 2 1)]->∀ {kx:Kx} {kr:Kn} {kx':Kx} {kr':Kn},run lpI c123_53 (cfP PP []) (run lpI c123_57 (cfP PP []) K2 kx kr) kx' kr' T h6:=by
     intro h6 T q1 q2 q3 kx kr kx' kr'
     refine mid h6 T q1 q2 q3 fun next' mp' h7 T' p1 p2 p3 p4 p5=>?_
     have t9:T'.get (path 9)=some (.int .i64 (i:Int)):=by obtain ⟨_,_,_,_,_,e,_⟩:=p5;exact e
     obtain ⟨e1,e2,e3,e4,e5,e6,_⟩:=p5
     simp at e1 e2 e3 e4 e5 e6
     simp [Opd.get,PT.get_put,e6,wr]
     refine hK2 (i+1) _ _ (by omega) ?_ ⟨by omega,next',mp',p1,p2,p3,p4⟩
     refine ⟨?_,?_,?_,?_,?_,?_,trivial⟩<;>simp [PT.get_put,e1,e2,e3,e4,e5,e6]
    refine ap_cases (fun hq=>?_) (fun hq=>?_)
    ·obtain ⟨h7,b1,b2,b3⟩:=o6.write1 (i:=1) (c:=vI 1) (by omega) rfl
     have C7:=C6.but hw0 b3 (by simp [rowB]) (fr6 _ (by simp [blkOf,rowB])).1 (fr6 _ (by simp [blkOf,rowB])).2.1 (fr6 _ (by simp [blkOf,rowB])).2.2.1 (fr6 _ (by simp [blkOf,rowB])).2.2.2
     have b1':(h5.newCells [.int .i64 now[i],.int .i64 0]).write h5.next 1 [.int .i64 1]=some h7:=b1
     have i6':indexAddrS 1 (.slice h5.next 0 2 2 1) (.int .i64 1)=some (.ptr h5.next 1):=i6
     simp [-x123_53,i6',b1']
     refine done _ _ C7 ?_ (by simp)
     have:endI E i=1:=by unfold endI;rw [if_pos];rw [List.getD_eq_getElem?_getD,List.getElem?_eq_getElem hiE];exact hq
     rw [this];exact b2
    ·have:endI E i=0:=by unfold endI;rw [if_neg];rw [List.getD_eq_getElem?_getD,List.getElem?_eq_getElem hiE];simp [hq]
     simp [-x123_53]
     refine done _ _ C6 ?_ (by simp)
     rw [this];exact o6
  ·have:i=R.length:=by omega
   subst this
   have kl:(ksR R E now).length=R.length:=K1.len
   rw [<-xl,List.take_length,xl,<-kl,List.take_length] at xt
   rw [<-kl,List.take_length] at ms
   subst xt
   have ml:=C.map.len
   have ml':(Go.Ab.ob (h4.get mb) fun y=>onEntries y fun _ es _=>some (AVal.int .i64 (es.length:Int)))=some (.int .i64 (mp.length:Int)):=by simpa using ml
   have last:mp.length=many\/mp.length=0->numb (ksR R E now) []=canonC R E:=by
    intro hq
    refine K1.final ok.co hE fun s t c d h1 h2 h3=>?_
    have m1:=(numb_get (ksR R E now) [] s c h1).2
    have m2:=(numb_get (ksR R E now) [] t d h2).2
    rcases hq with hq | hq
    ·rcases hist with h0 | ⟨was,ls,q1,q2,q3⟩
     ·have hz:(numbS (ksR R E now) []).length=1:=by rw [<-ms.1];omega
      obtain ⟨y,hy⟩:=List.length_eq_one_iff.1 hz
      rw [hy] at m1 m2
      simp at m1 m2
      rw [m1,m2]
     ·have fr:=K1.finer q1 q2
      obtain ⟨a,ha⟩:=finer_some fr h1
      obtain ⟨b,hb'⟩:=finer_some fr h2
      have hab:a=b:=by
       rw [q2,numb_getK ha,numb_getK hb'] at h3
       have g1:=idxK_get (numb_get ls [] s a ha).2
       have g2:=idxK_get (numb_get ls [] t b hb').2
       have e2:idxK (numbS ls []) a=idxK (numbS ls []) b:=by omega
       rw [e2,g2] at g1
       exact (Option.some.inj g1).symm
      subst hab
      exact finer_eq fr (by rw [<-q3,<-ms.1];omega) h1 h2 ha hb'
    ·have hz:(numbS (ksR R E now) []).length=0:=by rw [<-ms.1];omega
     rw [List.length_eq_zero_iff.1 hz] at m1;cases m1
   have done:mp.length=many\/mp.length=0->WF h4->k xv h4:=fun hq w=>by
    refine H h4 xv w (le0.trans C.hle) ?_ fun j hj=>by have:=(C.gx j hj).1;omega
    rw [<-last hq];exact C.next
   have hle':mp.length≠many->mp.length≠0->many < mp.length:=fun u1 u2=>by
    rcases hist with h0 | ⟨was,ls,q1,q2,q3⟩
    ·omega
    ·have:many<=mp.length:=by rw [ms.1,q3];exact finer_le (K1.finer q1 q2)
     omega
   have hub:mp.length<=R.length:=by rw [ms.1,<-kl];exact numbS_le _
   have okn:=numb_ok K1 ok hE (by omega)
   have msl:=ms.1
   clear ml
   generalize mp.length=cnt at *
   by_cases hq:cnt=many
   ·subst hq
    simp [ml']
    exact done (.inl rfl)
   ·have hq':¬ (cnt:Int)=many:=by omega
    by_cases hz:cnt=0
    ·subst hz
     simp at ml'
     simp [ml',hq']
     have hq2:¬ (0:Int)=many:=by omega
     simp [hq2,ml']
     exact done (.inr rfl)
    ·have hz':¬ (cnt:Int)=0:=by omega
     have hlt:=hle' hq hz
     simp [ml',hq',hz,hz']
     refine hK (xv,cnt) _ _ (by simp;omega) ?_ ⟨C.wf,C.hle,hub,_,C.next,fun j hj=>(C.gx j hj).1,okn,.inr ⟨now,ksR R E now,K1,rfl,msl⟩⟩
     simp
end Go.Ab.Z
namespace Go.Ab.Z
open Go Go.Ab
variable {h h':AHeap} {k:Post}
def K3:KeyT:=⟨3,false,[.int .i64]⟩
theorem kd3:Kd Int Int K3 vI vI:=⟨fun _=>rfl,rfl,fun a b=>by
 show bi (eqI a b) true false=_
 rw [eqI_eq,bi_eq,Bool.eq_iff_iff];simp⟩
structure MemL (h₀ h:AHeap) (cb mb:Nat) (wv ev mv:AVal) (W:List Int) (m:List (Int×Int)) (en:List Int) (mo:List PMove):Prop where
 wf:WF h
 hle:Hle h₀ h
 cell:Blk h cb [.int .i64 0,ev,mv]
 map:MapOf K3 vI vI h mb m
 work:ORow h 1 wv W.length (W.map vI)
 en:ORow h 1 ev en.length (en.map vI)
 mo:ORow h 3 mv mo.length (mo.map PMove.cells).flatten
 gc:h₀.next<=cb
 gm:h₀.next<=mb/\mb≠cb
 gw:∀ j∈blkOf wv,h₀.next<=j/\j≠cb/\j≠mb
 ge:∀ j∈blkOf ev,h₀.next<=j/\j≠cb/\j≠mb/\j∉blkOf wv
 go:∀ j∈blkOf mv,h₀.next<=j/\j≠cb/\j≠mb/\j∉blkOf wv/\j∉blkOf ev
section
variable {h₀:AHeap} {cb mb:Nat} {wv ev mv:AVal} {W:List Int} {m:List (Int×Int)} {en:List Int} {mo:List PMove}
theorem MemL.mono (M:MemL h₀ h cb mb wv ev mv W m en mo) (w:WF h') (l:Hle h h'):MemL h₀ h' cb mb wv ev mv W m en mo :=
 ⟨w,M.hle.trans l,M.cell.mono l,M.map.mono l,M.work.mono l,M.en.mono l,M.mo.mono l,M.gc,M.gm,M.gw,M.ge,M.go⟩
theorem MapOf.kp' {κ ν:Type} [DecidableEq κ] {K:KeyT} {ek:κ->AVal} {ev:ν->AVal} {b:Nat} {m:List (κ×ν)} (v:MapOf K ek ev h b m) (k:Kp h h' b):MapOf K ek ev h' b m:=by
 obtain ⟨es,c,e,r⟩:=v
 exact ⟨es,c,k _ e,r⟩
theorem orow_push {sz n:Nat} {v:AVal} {cs:List AVal} (o:ORow h sz v n cs) (w:WF h) (new:List AVal) (hl:new.length=sz) (hn:n < 67108864) (ho:allOne new=true) :
  ∃ h',appendA (h.newCells new) sz v (.slice h.next 0 1 1 sz)=some (some (.slice (h.next+1) 0 (n+1) (n+1) sz),h')/\ORow h' sz (.slice (h.next+1) 0 (n+1) (n+1) sz) (n+1) (cs++new)/\WF h'/\h'.next=h.next+2/\∀ j,j∉blkOf v->Kp h h' j:=by
 have le1:=Hle.newCells w new
 have w1:=w.newCells new
 have m1:more (h.newCells new) sz (.slice h.next 0 1 1 sz)=some (1,new):=(ORow.fresh h (sz:=sz) (n:=1) (cs:=new) (by omega)).more
 obtain ⟨h2,a1,a2,a3,a4⟩:=(o.mono le1).append w1 m1 (by omega) (by omega) (by omega) ho
 simp only [next_newCells] at a1 a2
 exact ⟨h2,a1,a2,a3,by rw [a4.next];simp,fun j hj=>Kp.trans (Hle.kp le1 j) (grown_kp a4 w1 (orow_kinds o) hj)⟩
theorem MemL.lts (M:MemL h₀ h cb mb wv ev mv W m en mo):cb < h.next/\mb < h.next/\(∀ j∈blkOf wv,j < h.next)/\(∀ j∈blkOf ev,j < h.next)/\∀ j∈blkOf mv,j < h.next :=
 ⟨M.cell.lt M.wf,M.map.lt M.wf,own_lt M.work M.wf,own_lt M.en M.wf,own_lt M.mo M.wf⟩
theorem MemL.pushW (M:MemL h₀ h cb mb wv ev mv W m en mo) (w₀:WF h₀) (s:Int) (hn:W.length < 1048576) :
  ∃ h2,appendA (h.newCells [.int .i64 s]) 1 wv (.slice h.next 0 1 1 1)=some (some (.slice (h.next+1) 0 (W.length+1) (W.length+1) 1),h2)/\MemL h₀ h2 cb mb (.slice (h.next+1) 0 (W.length+1) (W.length+1) 1) ev mv (W++[s]) m en mo:=by
 obtain ⟨h2,a1,a2,a3,a4,kp⟩:=orow_push M.work M.wf [vI s] rfl (by omega) rfl
 obtain ⟨l1,l2,l3,l4,l5⟩:=M.lts
 have hge:=M.hle.next
 refine ⟨h2,a1,a3,⟨by omega,fun j x e=>kp j (fun hj=>?_) x (M.hle.get j x e)⟩,Blk.kp M.cell (kp _ fun hj=>(M.gw _ hj).2.1 rfl),MapOf.kp' M.map (kp _ fun hj=>(M.gw _ hj).2.2 rfl),?_,own_kp M.en fun j hj=>kp j (M.ge j hj).2.2.2,own_kp M.mo fun j hj=>kp j (M.go j hj).2.2.2.1,M.gc,M.gm,?_,?_,?_⟩
 ·have:=(M.gw j hj).1;have:=w₀.lt e;omega
 ·rw [List.length_append,List.length_singleton,List.map_append];exact a2
 ·intro j hj;simp [blkOf] at hj;subst hj;exact ⟨by omega,by omega,by omega⟩
 ·intro j hj;have:=l4 j hj;have g:=M.ge j hj;exact ⟨g.1,g.2.1,g.2.2.1,by simp [blkOf];omega⟩
 ·intro j hj;have:=l5 j hj;have g:=M.go j hj;exact ⟨g.1,g.2.1,g.2.2.1,by simp [blkOf];omega,g.2.2.2.2⟩
theorem MemL.upd (M:MemL h₀ h cb mb wv ev mv W m en mo) (w₀:WF h₀) (a x:Int) :
  ∃ h2,updateA K3 (.map mb) (.int .i64 a) (.int .i64 x) h=some (none,h2)/\MemL h₀ h2 cb mb wv ev mv W (aput m a x) en mo:=by
 obtain ⟨h2,a1,a2,a3⟩:=M.map.update kd3 a x
 have hlt:=M.map.lt M.wf
 exact ⟨h2,a1,a3.wf M.wf hlt,a3.hle M.hle w₀ M.gm.1,Blk.kp M.cell (But.kp a3 M.gm.2.symm),a2,own_kp M.work fun j hj=>But.kp a3 (M.gw j hj).2.2,own_kp M.en fun j hj=>But.kp a3 (M.ge j hj).2.2.1,own_kp M.mo fun j hj=>But.kp a3 (M.go j hj).2.2.1,M.gc,M.gm,M.gw,M.ge,M.go⟩
theorem MemL.pushE (M:MemL h₀ h cb mb wv ev mv W m en mo) (w₀:WF h₀) (s:Int) (hn:en.length < 1048576) :
  ∃ h2 h3,appendA (h.newCells [.int .i64 s]) 1 ev (.slice h.next 0 1 1 1)=some (some (.slice (h.next+1) 0 (en.length+1) (en.length+1) 1),h2)/\h2.write cb 1 [.slice (h.next+1) 0 (en.length+1) (en.length+1) 1]=some h3 /\
   MemL h₀ h3 cb mb wv (.slice (h.next+1) 0 (en.length+1) (en.length+1) 1) mv W m (en++[s]) mo:=by
 obtain ⟨h2,a1,a2,a3,a4,kp⟩:=orow_push M.en M.wf [vI s] rfl (by omega) rfl
 obtain ⟨l1,l2,l3,l4,l5⟩:=M.lts
 have hge:=M.hle.next
 have c2:=Blk.kp M.cell (kp _ fun hj=>(M.ge _ hj).2.1 rfl)
 obtain ⟨h3,b1,b2,b3⟩:=c2.write1 (i:=1) (c:=.slice (h.next+1) 0 (en.length+1) (en.length+1) 1) (by simp) rfl
 have hle2:Hle h₀ h2:=⟨by omega,fun j x e=>kp j (fun hj=>by have:=(M.ge j hj).1;have:=w₀.lt e;omega) x (M.hle.get j x e)⟩
 refine ⟨h2,h3,a1,b1,b3.wf a3 (by omega),b3.hle hle2 w₀ M.gc,b2,MapOf.kp' M.map (Kp.trans (kp _ fun hj=>(M.ge _ hj).2.2.1 rfl) (But.kp b3 M.gm.2)),own_kp M.work fun j hj=>Kp.trans (kp j fun hj'=>(M.ge _ hj').2.2.2 hj) (But.kp b3 (M.gw j hj).2.1),?_,own_kp M.mo fun j hj=>Kp.trans (kp j (M.go j hj).2.2.2.2) (But.kp b3 (M.go j hj).2.1),M.gc,M.gm,M.gw,?_,?_⟩
 ·rw [List.length_append,List.length_singleton,List.map_append]
  exact own_kp a2 fun j hj=>But.kp b3 (by simp [blkOf] at hj;omega)
 ·intro j hj;simp [blkOf] at hj;subst hj;exact ⟨by omega,by omega,by omega,fun hj=>by have:=l3 _ hj;omega⟩
 ·intro j hj;have:=l5 j hj;have g:=M.go j hj;exact ⟨g.1,g.2.1,g.2.2.1,g.2.2.2.1,by simp [blkOf];omega⟩
theorem MemL.pushM (M:MemL h₀ h cb mb wv ev mv W m en mo) (w₀:WF h₀) (x:PMove) (hn:mo.length < 1048576) :
  ∃ h2 h3,appendA (h.newCells x.cells) 3 mv (.slice h.next 0 1 1 3)=some (some (.slice (h.next+1) 0 (mo.length+1) (mo.length+1) 3),h2)/\h2.write cb 2 [.slice (h.next+1) 0 (mo.length+1) (mo.length+1) 3]=some h3 /\
   MemL h₀ h3 cb mb wv ev (.slice (h.next+1) 0 (mo.length+1) (mo.length+1) 3) W m en (mo++[x]):=by
 obtain ⟨h2,a1,a2,a3,a4,kp⟩:=orow_push M.mo M.wf x.cells rfl (by omega) rfl
 obtain ⟨l1,l2,l3,l4,l5⟩:=M.lts
 have hge:=M.hle.next
 have c2:=Blk.kp M.cell (kp _ fun hj=>(M.go _ hj).2.1 rfl)
 obtain ⟨h3,b1,b2,b3⟩:=c2.write1 (i:=2) (c:=.slice (h.next+1) 0 (mo.length+1) (mo.length+1) 3) (by simp) rfl
 have hle2:Hle h₀ h2:=⟨by omega,fun j x e=>kp j (fun hj=>by have:=(M.go j hj).1;have:=w₀.lt e;omega) x (M.hle.get j x e)⟩
 refine ⟨h2,h3,a1,b1,b3.wf a3 (by omega),b3.hle hle2 w₀ M.gc,b2,MapOf.kp' M.map (Kp.trans (kp _ fun hj=>(M.go _ hj).2.2.1 rfl) (But.kp b3 M.gm.2)),own_kp M.work fun j hj=>Kp.trans (kp j fun hj'=>(M.go _ hj').2.2.2.1 hj) (But.kp b3 (M.gw j hj).2.1),own_kp M.en fun j hj=>Kp.trans (kp j fun hj'=>(M.go _ hj').2.2.2.2 hj) (But.kp b3 (M.ge j hj).2.1),?_,M.gc,M.gm,M.gw,M.ge,?_⟩
 ·rw [List.length_append,List.length_singleton,List.map_append,List.flatten_append]
  have:(List.map PMove.cells [x]).flatten=x.cells:=by simp
  rw [this]
  exact own_kp a2 fun j hj=>But.kp b3 (by simp [blkOf] at hj;omega)
 ·intro j hj;simp [blkOf] at hj;subst hj;exact ⟨by omega,by omega,by omega,fun hj=>by have:=l3 _ hj;omega,fun hj=>by have:=l4 _ hj;omega⟩
end
def rowL (C:Int->Int) (src:Int):List (Int×Int)->List Int->List PMove->List Int×List PMove
 | [],w,ms=>(w,ms)
 | (x,c) :: r,w,ms=>if x < 0\/C x < 0 then rowL C src r w ms
  else rowL C src r (if C x∈w.map C then w else w++[x]) (ms++[⟨src,(idxK (w.map C) (C x):Int),c⟩])
def bfsL (R:List (List Int)) (E:List Bool) (C:Int->Int) (sy:List Int):Nat->Nat->List Int->List Int->List PMove->List Int×List Int×List PMove
 | 0,_,w,en,ms=>(w,en,ms)
 | F+1,i,w,en,ms=>match w[i]? with
  | none=>(w,en,ms)
  | some s=>bfsL R E C sy F (i+1) (rowL C i ((R.getD s.toNat []).zip sy) w ms).1 (if E.getD s.toNat false=true then en++[(i:Int)] else en) (rowL C i ((R.getD s.toNat []).zip sy) w ms).2
noncomputable def leastX (R:List (List Int)) (E:List Bool) (sy:List Int):PAuto :=
 if valP (canonC R E) 0 < 0 then ⟨1,[],[]⟩
 else let r:=bfsL R E (valP (canonC R E)) sy (R.length+1) 0 [0] [] []
  ⟨r.1.length,r.2.1,r.2.2⟩
structure WOk (n:Nat) (C:Int->Int) (W:List Int):Prop where
 nd:(W.map C).Nodup
 rg:∀ x∈W,0<=x/\x < (n:Int)
theorem WOk.le {n:Nat} {C:Int->Int} {W:List Int} (o:WOk n C W):W.length<=n:=by
 have:=nodup_sub_length (l:=W) (m:=(List.range n).map fun i:Nat=>(i:Int)) ((List.pairwise_map.1 o.nd).imp fun h e=>h (congrArg C e)) fun x hx=>by
  obtain ⟨h1,h2⟩:=o.rg x hx
  exact List.mem_map.2 ⟨x.toNat,by simp;omega,by omega⟩
 simpa using this
theorem WOk.push {n:Nat} {C:Int->Int} {W:List Int} (o:WOk n C W) {x:Int} (h0:0<=x) (hn:x < (n:Int)) (hc:C x∉W.map C):WOk n C (W++[x]):=by
 refine ⟨?_,fun y hy=>?_⟩
 ·rw [List.map_append,List.nodup_append]
  refine ⟨o.nd,by simp,fun a ha b hb e=>?_⟩
  simp at hb
  subst hb;subst e;exact hc ha
 ·rcases List.mem_append.1 hy with hy | hy
  ·exact o.rg y hy
  ·simp at hy;subst hy;exact ⟨h0,hn⟩
def moveI (x:PMove):Prop:=I64 x.src/\I64 x.dst/\I32 x.rune
theorem idxK_le {κ:Type} [DecidableEq κ] (l:List κ) (c:κ):idxK l c<=l.length:=List.idxOf_le_length
theorem rowL_ok {C:Int->Int} {src:Int} (hs:I64 src):∀ (zs:List (Int×Int)) (w:List Int) (ms:List PMove),(∀ z∈zs,I32 z.2)->(∀ x∈ms,moveI x)->w.length+zs.length<=1000000 ->
  (rowL C src zs w ms).1.length<=w.length+zs.length/\∀ x∈(rowL C src zs w ms).2,moveI x
 | [],w,ms,_,hm,_=>⟨by simp [rowL],by simpa [rowL] using hm⟩
 | (x,c) :: r,w,ms,hz,hm,hl=>by
  simp only [List.length_cons] at hl ⊢
  unfold rowL
  split
  ·obtain ⟨h1,h2⟩:=rowL_ok (C:=C) hs r w ms (fun z hz'=>hz z (by simp [hz'])) hm (by omega)
   exact ⟨by omega,h2⟩
  ·have hw:(if C x∈w.map C then w else w++[x]).length<=w.length+1:=by split<;>simp
   obtain ⟨h1,h2⟩:=rowL_ok (C:=C) hs r (if C x∈w.map C then w else w++[x]) (ms++[⟨src,(idxK (w.map C) (C x):Int),c⟩]) (fun z hz'=>hz z (by simp [hz'])) (fun y hy=>by
    rcases List.mem_append.1 hy with hy | hy
    ·exact hm y hy
    ·simp at hy;subst hy
     have:=idxK_le (w.map C) (C x)
     rw [List.length_map] at this
     exact ⟨hs,by unfold I64;simp only;omega,hz (x,c) (by simp)⟩) (by omega)
   exact ⟨by omega,h2⟩
theorem bfsL_ok {R:List (List Int)} {E:List Bool} {C:Int->Int} {sy:List Int} (hsl:sy.length<=128) (hs:∀ c∈sy,I32 c):∀ (F i:Nat) (w en:List Int) (ms:List PMove),i+F<=5000->w.length<=1+i*128->(∀ e∈en,I64 e)->(∀ x∈ms,moveI x) ->
  (bfsL R E C sy F i w en ms).1.length<=1+(i+F)*128/\(∀ e∈(bfsL R E C sy F i w en ms).2.1,I64 e)/\∀ x∈(bfsL R E C sy F i w en ms).2.2,moveI x
 | 0,i,w,en,ms,_,h1,h2,h3=>⟨by simp [bfsL];omega,by simpa [bfsL] using h2,by simpa [bfsL] using h3⟩
 | F+1,i,w,en,ms,h0,h1,h2,h3=>by
  unfold bfsL
  cases hw:w[i]? with
  | none=>exact ⟨by simp only;omega,h2,h3⟩
  | some s =>
   have hI:I64 (i:Int):=by unfold I64;omega
   have zl:((R.getD s.toNat []).zip sy).length<=128:=by rw [List.length_zip];omega
   obtain ⟨r1,r2⟩:=rowL_ok (C:=C) (src:=(i:Int)) hI ((R.getD s.toNat []).zip sy) w ms (fun z hz=>hs _ (List.of_mem_zip hz).2) h3 (by omega)
   obtain ⟨q1,q2⟩:=bfsL_ok (R:=R) (E:=E) (C:=C) hsl hs F (i+1) (rowL C i ((R.getD s.toNat []).zip sy) w ms).1 (if E.getD s.toNat false=true then en++[(i:Int)] else en) (rowL C i ((R.getD s.toNat []).zip sy) w ms).2 (by omega) (by omega) (fun e he=>by
    split at he
    ·rcases List.mem_append.1 he with he | he
     ·exact h2 e he
     ·simp at he;subst he;exact hI
    ·exact h2 e he) r2
   exact ⟨by simp only;omega,q2⟩
theorem leastX_ok {R:List (List Int)} {E:List Bool} {sy:List Int} (hsl:sy.length<=128) (hs:∀ c∈sy,I32 c) (hn:R.length<=4200):I64 (leastX R E sy).states/\(∀ e∈(leastX R E sy).ends,I64 e)/\∀ m∈(leastX R E sy).moves,I64 m.src/\I64 m.dst/\I32 m.rune:=by
 unfold leastX
 split
 ·exact ⟨by unfold I64;simp,by simp,by simp⟩
 ·obtain ⟨h1,h2,h3⟩:=bfsL_ok (R:=R) (E:=E) (C:=valP (canonC R E)) hsl hs (R.length+1) 0 [0] [] [] (by omega) (by simp) (by simp) (by simp)
  exact ⟨by unfold I64;simp only;omega,h2,h3⟩
end Go.Ab.Z
namespace Go.Ab.Z
open Go Go.Ab
variable {h h':AHeap} {k:Post} {fe le en mo to:AVal} {A:PAlpha} {R:List (List Int)} {E:List Bool}
theorem MemL.seed {h₀:AHeap} {cb mb:Nat} {ev mv:AVal} {m:List (Int×Int)} {en:List Int} {mo:List PMove} (M:MemL h₀ h cb mb .nils ev mv [] m en mo) (s:Int):MemL h₀ (h.newCells [.int .i64 s]) cb mb (.slice h.next 0 1 1 1) ev mv [s] m en mo:=by
 have le1:=Hle.newCells M.wf [vI s]
 obtain ⟨l1,l2,l3,l4,l5⟩:=M.lts
 have hge:=M.hle.next
 refine ⟨M.wf.newCells _,M.hle.trans le1,M.cell.mono le1,M.map.mono le1,ORow.fresh h (by simp),M.en.mono le1,M.mo.mono le1,M.gc,M.gm,fun j hj=>?_,fun j hj=>?_,fun j hj=>?_⟩
 ·simp [blkOf] at hj;subst hj;exact ⟨by omega,by omega,by omega⟩
 ·have:=l4 j hj;have g:=M.ge j hj;exact ⟨g.1,g.2.1,g.2.2.1,by simp [blkOf];omega⟩
 ·have:=l5 j hj;have g:=M.go j hj;exact ⟨g.1,g.2.1,g.2.2.1,by simp [blkOf];omega,g.2.2.2.2⟩
theorem one3 {a b c:AVal} (ha:oneA a=true) (hb:oneA b=true) (hc:oneA c=true):allOne [a,b,c]=true:=by
 rw [allOne_iff];intro v hv;simp at hv;rcases hv with rfl | rfl | rfl<;>assumption
theorem MemL.begin (w:WF h) (c x:Int):∃ h2,updateA K3 (.map (h.next+1)) (.int .i64 c) (.int .i64 x) ((h.newCells [.int .i64 0,.nils,.nils]).new (.map 3 [] 0))=some (none,h2)/\h2.next=h.next+2 /\
  MemL h (h2.newCells [.int .i64 0]) h.next (h.next+1) (.slice (h.next+2) 0 1 1 1) .nils .nils [0] [(c,x)] [] []:=by
 have w1:=w.newCells [.int .i64 0,.nils,.nils]
 have le1:=Hle.newCells w [.int .i64 0,.nils,.nils]
 have w2:=w1.new (.map 3 [] 0)
 have le2:=Hle.new w1 (.map 3 [] 0)
 have M0:MemL h ((h.newCells [.int .i64 0,.nils,.nils]).new (.map 3 [] 0)) h.next (h.next+1) .nils .nils .nils [] [] [] []:=by
  refine ⟨w2,le1.trans le2,(Blk.new h _).mono le2,?_,ORow.nil _ _,ORow.nil _ _,ORow.nil _ _,Nat.le_refl _,⟨by omega,by omega⟩,fun j hj=>(by cases hj),fun j hj=>(by cases hj),fun j hj=>(by cases hj)⟩
  have:=MapOf.new (K:=K3) (ek:=vI) (ev:=vI) (h.newCells [.int .i64 0,.nils,.nils])
  exact this
 obtain ⟨h2,a1,a2,a3⟩:=M0.map.update kd3 c x
 obtain ⟨h2',b1,M1⟩:=M0.upd w c x
 have e:h2=h2':=by
  have a1:updateA K3 (.map (h.next+1)) (.int .i64 c) (.int .i64 x) _=some (none,h2):=a1
  rw [a1] at b1;simpa using b1
 subst e
 have nx:h2.next=h.next+2:=by rw [a3.next];simp
 refine ⟨h2,a1,nx,?_⟩
 have:=M1.seed 0
 rw [nx] at this
 exact this
theorem valP_nat {now:List Int} {t:Nat} (h:t < now.length):valP now (t:Int)=now[t]:=by
 unfold valP
 rw [if_neg (by omega),Int.toNat_natCast,List.getD_eq_getElem?_getD,List.getElem?_eq_getElem h];rfl
theorem canonC_len (R:List (List Int)) (E:List Bool):(canonC R E).length=R.length:=by simp [canonC,numb_length]
theorem rowL_drop {C:Int->Int} {src:Int} {zs:List (Int×Int)} {j:Nat} (hj:j < zs.length) (w:List Int) (ms:List PMove):rowL C src (zs.drop j) w ms=if zs[j].1 < 0\/C zs[j].1 < 0 then rowL C src (zs.drop (j+1)) w ms
  else rowL C src (zs.drop (j+1)) (if C zs[j].1∈w.map C then w else w++[zs[j].1]) (ms++[⟨src,(idxK (w.map C) (C zs[j].1):Int),zs[j].2⟩]):=by
 rw [List.drop_eq_getElem_cons hj]
 rfl
structure OwnAuto (h₀ h:AHeap) (en mo:AVal) (X:PAuto):Prop where
 oe:ORow h 1 en X.ends.length (X.ends.map vI)
 om:ORow h 3 mo X.moves.length (X.moves.map PMove.cells).flatten
 ge:∀ j∈blkOf en,h₀.next<=j
 go:∀ j∈blkOf mo,h₀.next<=j/\j∉blkOf en
theorem f59 {m:Nat} {own:List Nat} (M:Mach h m fe le A.letters.length R E own) (hA:IsAlpha h fe le A) (hne:R≠[]) (hb:∀ r∈R,∀ t∈r,t < (R.length:Int)) (hn:R.length<=4097) (hL:A.letters.length<=128)
  (H:∀ h' en mo,WF h'->Hle h h'->IsAuto h' en mo (leastX R E (A.letters.map PLetter.rune))->OwnAuto h h' en mo (leastX R E (A.letters.map PLetter.rune))->k (aV (leastX R E (A.letters.map PLetter.rune)).states en mo) h'):Cf 59 [.ptr m 0] h k:=by
 refine use_code compiled59 fun hw=>?_
 have hpos:0 < R.length:=by cases R with | nil=>exact absurd rfl hne | cons _ _=>simp
 have w0:=hw.newCells [.int .i64 0,.nils,.nils]
 have le0:=Hle.newCells hw [.int .i64 0,.nils,.nils]
 have v0:=Blk.new h [.int .i64 0,.nils,.nils]
 simp [fn59]
 refine f119 (M.mono le0) hne hb hn hL fun h2 cv w2 le2 oc gc=>?_
 have v2:=v0.mono le2
 have leh2:=le0.trans le2
 have M2:=M.mono leh2
 have A2:=hA.mono leh2
 obtain ⟨tv,ev,rb,rfl,N⟩:=M2
 have gx:h.next < h2.next:=by have:=le2.next;simp at this;omega
 clear v0 w0 le2 M le0
 have cl:=canonC_len R E
 generalize hcc:canonC R E=cc at *
 obtain ⟨c1,c2⟩:=orow_rd (i:=0) oc (by omega) (by omega)
 simp at c1
 have vz:valP cc 0=cc[0]:=valP_nat (t:=0) (by omega)
 simp [c1,c2]
 refine ap_split (fun hc=>?_) (fun hc=>?_)
 ·obtain ⟨h5,b1,b2,b3⟩:=v2.write (off:=0) (vs:=[.int .i64 1,.nils,.nils]) (by simp) rfl
  have rd:=b2.rd (off:=0) (n:=3) (l:=[.int .i64 1,.nils,.nils]) (by simp) rfl
  have hX:leastX R E (A.letters.map PLetter.rune)=⟨1,[],[]⟩:=by unfold leastX;rw [hcc,vz,if_pos hc]
  simp [listPut,b1,rd]
  intro w
  refine kcast (H h5 .nils .nils w (b3.hle leh2 hw (Nat.le_refl _)) ?_ ?_) (by rw [hX];rfl)
  rotate_left
  ·rw [hX];exact ⟨ORow.nil _ _,ORow.nil _ _,fun j hj=>(by cases hj),fun j hj=>(by cases hj)⟩
  rw [hX]
  exact ⟨(ORow.nil _ _).row1,⟨by simp,.inl ⟨rfl,rfl⟩⟩,by simp,by simp,⟨by unfold I64;simp,by simp,by simp⟩⟩
 ·obtain ⟨h3,u1,u2,M3⟩:=MemL.begin w2 (cc[0]) 0
  have u1:updateA ⟨3,false,[.int .i64]⟩ (.map (h2.next+1)) (.int .i64 cc[0]) (.int .i64 0) ((h2.newCells [.int .i64 0,.nils,.nils]).new (.map 3 [] 0))=some (none,h3):=u1
  have c2':=read1_hle ((Hle.newCells w2 [.int .i64 0,.nils,.nils]).trans (Hle.new (w2.newCells _) (.map 3 [] 0))) c2
  have hX:leastX R E (A.letters.map PLetter.rune)=let r:=bfsL R E (valP cc) (A.letters.map PLetter.rune) (R.length+1) 0 [0] [] [];⟨r.1.length,r.2.1,r.2.2⟩:=by unfold leastX;rw [hcc,vz,if_neg hc]
  have hok:=leastX_ok (R:=R) (E:=E) (sy:=A.letters.map PLetter.rune) (by simpa using hL) (fun c hc=>by obtain ⟨l,hl,rfl⟩:=List.mem_map.1 hc;exact (hA.ok l hl).1) (by omega)
  generalize leastX R E (A.letters.map PLetter.rune)=X at *
  generalize hsy:A.letters.map PLetter.rune=sy at *
  have syl:sy.length=A.letters.length:=by rw [<-hsy];simp
  simp [c1,c2',u1,u2,listPut]
  rw [L59_1]
  refine loop_by (σ:=AVal×Nat) (fun st h'=>∃ W mp en mo ev mv,MemL h2 h' h2.next (h2.next+1) st.1 ev mv W mp en mo/\st.2<=W.length/\WOk R.length (valP cc) W/\MapS mp (W.map (valP cc)) 0/\en.length<=st.2/\mo.length<=st.2*128 /\
    bfsL R E (valP cc) sy (R.length+1 - st.2) st.2 W en mo=bfsL R E (valP cc) sy (R.length+1) 0 [0] [] [])
   (fun st=>[(0,.ptr m 0),(2,.ptr h.next 0),(3,cv),(4,.ptr h2.next 0),(5,.map (h2.next+1)),(6,st.1),(7,.int .i64 st.2)]) (fun st=>R.length - st.2) (.slice (h2.next+2) 0 1 1 1,0) (by simp) ?_ ?_
  ·refine ⟨[0],_,[],[],_,_,M3,by simp,⟨by simp,fun x hx=>by simp at hx;subst hx;omega⟩,?_,by simp,by simp,rfl⟩
   have:=(MapS.nil (κ:=Int) 0).push (c:=cc[0]) (by simp)
   simpa [aput,vz] using this
  clear M3 u1 c2' c1 c2
  rintro ⟨wv,i⟩ h4 K ⟨W,mp,en,mo,ev',mv,C,hi,wo,ms,hen,hmo,hrun⟩ hK
  simp only at C hi hen hmo hrun hK
  have wl:=C.work.len
  have wle:=wo.le
  simp [wl]
  refine ap_split (fun hd=>?_) (fun hd=>?_)
  ·have hd:i < W.length:=by omega
   obtain ⟨s,hs⟩:=Int.eq_ofNat_of_zero_le (wo.rg W[i] (List.getElem_mem hd)).1
   have hsl:s < R.length:=by have:=(wo.rg W[i] (List.getElem_mem hd)).2;omega
   have hsE:s < E.length:=by have:=N.ne;omega
   obtain ⟨p1,p2⟩:=orow_rd (i:=i) C.work hd hd
   rw [hs] at p2
   have wr:wrapF .i64 ((i:Int)+1)=(i:Int)+1:=wrap64 (by omega) (by omega)
   have q3:=(N.box.mono C.hle).rd1 (i:=3) (c:=ev) rfl
   have e1:=N.en.row1.idx (i:=s) (by simpa using hsE) .i64
   have e2:=(N.en.row1.mono C.hle).rd (i:=s) (c:=.bool E[s]) (by simp [hsE])
   obtain ⟨x,a1,a2,a3⟩:=N.rowsI.get hsl
   have xl:=a3.len
   simp only [List.length_map] at xl
   have hrl:R[s].length=A.letters.length:=N.rlen hsl
   have Es:E.getD s false=E[s]:=by rw [List.getD_eq_getElem?_getD,List.getElem?_eq_getElem hsE];rfl
   have Rs:R.getD s []=R[s]:=by rw [List.getD_eq_getElem?_getD,List.getElem?_eq_getElem hsl];rfl
   have mid:∀ (h6:AHeap) (T:PT AVal) (en:List Int) (ev':AVal),MemL h2 h6 h2.next (h2.next+1) wv ev' mv W mp en mo->en.length<=i+1 ->
     bfsL R E (valP cc) sy (R.length - i) (i+1) (rowL (valP cc) i (R[s].zip sy) W mo).1 en (rowL (valP cc) i (R[s].zip sy) W mo).2=bfsL R E (valP cc) sy (R.length+1) 0 [0] [] [] ->
     Has T [(0,.ptr m 0),(2,.ptr h.next 0),(3,cv),(4,.ptr h2.next 0),(5,.map (h2.next+1)),(6,wv),(7,.int .i64 i),(8,.int .i64 s)]->∀ {kx:Kx} {kr:Kn} {kx':Kx} {kr':Kn},run lpI c59_16 (cfP PP []) (run lpI c59_39 (cfP PP []) K kx kr) kx' kr' T h6:=by
    intro h6 T en ev' C hen hrun hT kx kr kx' kr'
    obtain ⟨t0,t2,t3,t4,t5,t6,t7,t8,_⟩:=hT
    simp at t0 t2 t3 t4 t5 t6 t7 t8
    have q2:=(N.box.mono C.hle).rd1 (i:=2) (c:=tv) rfl
    have a2':=read1_hle C.hle a2
    simp [PT.get_put,t0,t2,t3,t4,t5,t6,t7,t8,q2,a1,a2',xl]
    have zl:(R[s].zip sy).length=R[s].length:=by rw [List.length_zip];omega
    rw [L59_2]
    refine loop_by (σ:=Nat×AVal) (fun st h'=>st.1<=R[s].length/\∃ W' mp mo' mv,MemL h2 h' h2.next (h2.next+1) st.2 ev' mv W' mp en mo'/\i < W'.length/\WOk R.length (valP cc) W'/\MapS mp (W'.map (valP cc)) 0/\mo'.length<=i*128+st.1 /\
      rowL (valP cc) i ((R[s].zip sy).drop st.1) W' mo'=rowL (valP cc) i (R[s].zip sy) W mo)
     (fun st=>[(0,.ptr m 0),(2,.ptr h.next 0),(3,cv),(4,.ptr h2.next 0),(5,.map (h2.next+1)),(6,st.2),(7,.int .i64 i),(8,.int .i64 s),(55,x),(56,.int .i64 R[s].length),(57,.int .i64 st.1)]) (fun st=>R[s].length - st.1) (0,wv) ?_ ?_ ?_
    ·refine ⟨?_,?_,?_,?_,?_,?_,?_,?_,?_,?_,?_,trivial⟩<;>simp [PT.get_put,t0,t2,t3,t4,t5,t6,t7,t8]
    ·exact ⟨Nat.zero_le _,W,mp,mo,mv,C,hd,wo,ms,by simp;omega,rfl⟩
    clear t0 t2 t3 t4 t5 t6 t7 t8 q2 a2'
    rintro ⟨j,wv⟩ h7 K2 ⟨hj,W',mp,mo',mv,C,hiW,wo,ms,hmo',rr⟩ hK2
    simp only at hj C hmo' rr hK2
    simp
    refine ap_split (fun hq=>?_) (fun hq=>?_)
    ·have hq:j < R[s].length:=by omega
     have b1:=a3.idx (i:=j) (by simpa using hq) .i64
     have b3:=(a3.mono C.hle).rd (i:=j) (c:=vI R[s][j]) (by simp [hq])
     have wrj:wrapF .i64 ((j:Int)+1)=(j:Int)+1:=wrap64 (by omega) (by omega)
     have hz:(R[s].zip sy)[j]'(by omega)=(R[s][j],sy[j]'(by omega)):=by simp
     rw [rowL_drop (by omega)] at rr
     rw [hz] at rr
     simp only at rr
     by_cases hx:R[s][j] < 0
     ·rw [if_pos (.inl hx)] at rr
      simp [b1,b3,vI,hx,wrj]
      refine hK2 (j+1,wv) _ _ (by simp;omega) ?_ ⟨by simp;omega,W',mp,mo',mv,C,hiW,wo,ms,by simp;omega,rr⟩
      simp
     ·obtain ⟨t,ht⟩:=Int.eq_ofNat_of_zero_le (by omega:0<=R[s][j])
      have htl:t < R.length:=by have:=hb R[s] (List.getElem_mem hsl) R[s][j] (List.getElem_mem hq);omega
      obtain ⟨d1,d2⟩:=orow_rd (i:=t) (oc.mono C.hle) (by omega) htl
      have vt:valP cc (t:Int)=cc[t]:=valP_nat (by omega)
      have ht0:¬ (t:Int) < 0:=by omega
      rw [ht] at rr b3
      rw [vt] at rr
      by_cases hy:cc[t] < 0
      ·rw [if_pos (.inr hy)] at rr
       simp [b1,b3,vI,ht0,d1,d2,hy,wrj]
       refine hK2 (j+1,wv) _ _ (by simp;omega) ?_ ⟨by simp;omega,W',mp,mo',mv,C,hiW,wo,ms,by simp;omega,rr⟩
       simp
      ·rw [if_neg (by omega)] at rr
       have lk:=C.map.lookup kd3 cc[t] (.int .i64 0) true
       have edge:∀ (h8:AHeap) (T:PT AVal) (wv:AVal) (W'':List Int) (mp:List (Int×Int)),MemL h2 h8 h2.next (h2.next+1) wv ev' mv W'' mp en mo'->i < W''.length->WOk R.length (valP cc) W''->MapS mp (W''.map (valP cc)) 0 ->
         (if cc[t]∈W'.map (valP cc) then W' else W'++[(t:Int)])=W'' ->
         Has T [(0,.ptr m 0),(2,.ptr h.next 0),(3,cv),(4,.ptr h2.next 0),(5,.map (h2.next+1)),(6,wv),(7,.int .i64 i),(8,.int .i64 s),(9,.int .i64 j),(11,.int .i64 (idxK (W'.map (valP cc)) cc[t]:Int)),(55,x),(56,.int .i64 R[s].length),(57,.int .i64 j)] ->
         ∀ {kx:Kx} {kr:Kn} {kx':Kx} {kr':Kn},run lpI c59_28 (cfP PP []) (run lpI c59_32 (cfP PP []) K2 kx kr) kx' kr' T h8:=by
        intro h8 T wv W'' mp C hiW wo ms hW hT kx kr kx' kr'
        obtain ⟨t0,t2,t3,t4,t5,t6,t7,t8,t9,t11,t55,t56,t57,_⟩:=hT
        simp at t0 t2 t3 t4 t5 t6 t7 t8 t9 t11 t55 t56 t57
        have hjl:j < A.letters.length:=by omega
        have y1:=C.cell.rd1 (i:=2) (c:=mv) rfl
        have y2:=(N.box.mono C.hle).rd1 (i:=1) (c:=le) rfl
        have y3:=hA.le.idx (i:=j) (by simpa using hjl) .i64
        have y4:=(A2.le.mono C.hle).rd1_0 (i:=j) (l:=A.letters[j].cells) (c:=.int .i32 A.letters[j].rune) (by simp [hjl]) rfl
        obtain ⟨g2,g3,z1,z2,C3⟩:=C.pushM w2 ⟨(i:Int),(idxK (W'.map (valP cc)) cc[t]:Int),A.letters[j].rune⟩ (by omega)
        have y5:=(C.cell.mono (Hle.newCells C.wf [.int .i64 (i:Int),.int .i64 (idxK (W'.map (valP cc)) cc[t]:Int),.int .i32 A.letters[j].rune])).rd1 (i:=2) (c:=mv) rfl
        have sm:=same_orow C.mo
        simp only [PMove.cells] at z1
        simp [PT.get_put,t0,t2,t3,t4,t5,t6,t7,t8,t9,t11,t55,t56,t57,y1,y2,y3,y4,listPut,y5,sm,z1,z2,wrj]
        have hsj:sy[j]'(by omega)=A.letters[j].rune:=by simp only [<-hsy,List.getElem_map]
        rw [hW] at rr
        rw [hsj] at rr
        refine hK2 (j+1,wv) _ _ (by simp;omega) ?_ ⟨by simp;omega,W'',mp,_,_,C3,hiW,wo,ms,by simp;omega,rr⟩
        refine ⟨?_,?_,?_,?_,?_,?_,?_,?_,?_,?_,?_,trivial⟩<;>simp [PT.get_put,t0,t2,t3,t4,t5,t6,t7,t8,t9,t11,t55,t56,t57]
       by_cases hin:cc[t]∈W'.map (valP cc)
       ·rw [ms.old hin,Int.add_zero] at lk
        have lk:lookupA ⟨3,false,[.int .i64]⟩ (.int .i64 0) true (.map (h2.next+1)) (.int .i64 cc[t]) h7=some (.tup [.int .i64 (idxK (W'.map (valP cc)) cc[t]:Int),.bool true]):=lk
        simp [-x59_28,b1,b3,vI,ht0,d1,d2,hy,lk]
        refine edge _ _ _ W' mp C hiW wo ms (by rw [if_pos hin]) ?_
        simp
       ·rw [ms.new hin] at lk
        have lk:lookupA ⟨3,false,[.int .i64]⟩ (.int .i64 0) true (.map (h2.next+1)) (.int .i64 cc[t]) h7=some (.tup [.int .i64 0,.bool false]):=lk
        have wl':=C.work.len
        obtain ⟨g1,f1,C1⟩:=C.upd w2 cc[t] (W'.length:Int)
        have f1:updateA ⟨3,false,[.int .i64]⟩ (.map (h2.next+1)) (.int .i64 cc[t]) (.int .i64 (W'.length:Int)) h7=some (none,g1):=f1
        have wle':=wo.le
        obtain ⟨g2,f2,C2⟩:=C1.pushW w2 (t:Int) (by omega)
        have ix:idxK (W'.map (valP cc)) cc[t]=W'.length:=by rw [idxK_new hin];simp
        simp [-x59_28,b1,b3,vI,ht0,d1,d2,hy,lk,wl',f1,listPut,f2]
        refine edge _ _ _ (W'++[(t:Int)]) _ C2 (by simp;omega) (wo.push (by omega) (by omega) (by rw [vt];exact hin)) ?_ (by rw [if_neg hin]) ?_
        ·have:=ms.push hin
         rw [List.length_map,Int.add_zero] at this
         rw [List.map_append,List.map_cons,vt]
         exact this
        ·simp [ix]
    ·have:j=R[s].length:=by omega
     subst this
     rw [<-zl,List.drop_length] at rr
     simp only [rowL] at rr
     rw [<-rr] at hrun
     simp [wr]
     refine hK (wv,i+1) _ _ (by simp;omega) ?_ ⟨W',mp,en,mo',ev',mv,C,by simp;omega,wo,ms,hen,by simp;omega,?_⟩
     ·simp
     ·rw [show R.length+1 - (i+1)=R.length - i by omega];exact hrun
   have hrun':bfsL R E (valP cc) sy (R.length - i) (i+1) (rowL (valP cc) i (R[s].zip sy) W mo).1 (if E[s]=true then en++[(i:Int)] else en) (rowL (valP cc) i (R[s].zip sy) W mo).2=bfsL R E (valP cc) sy (R.length+1) 0 [0] [] []:=by
    rw [<-hrun,show R.length+1 - i=(R.length - i)+1 by omega]
    simp only [bfsL,List.getElem?_eq_getElem hd,hs]
    simp only [Int.toNat_natCast,Es,Rs]
   simp [-x59_16,p1,p2,q3,e1,e2]
   refine ap_cases (fun hq=>?_) (fun hq=>?_)
   ·rw [if_pos hq] at hrun'
    obtain ⟨g2,g3,z1,z2,C2⟩:=C.pushE w2 (i:Int) (by omega)
    have y1:=C.cell.rd1 (i:=1) (c:=ev') rfl
    simp [-x59_16,y1,listPut,z1,z2]
    refine mid _ _ _ _ C2 (by simp;omega) hrun' ?_
    simp
   ·rw [hq,if_neg (by simp)] at hrun'
    simp [-x59_16]
    refine mid _ _ _ _ C (by omega) hrun' ?_
    simp
  ·have:i=W.length:=by omega
   subst this
   have hX':X=⟨W.length,en,mo⟩:=by
    rw [hX,<-hrun,show R.length+1 - W.length=(R.length - W.length)+1 by omega]
    simp only [bfsL,List.getElem?_eq_none (Nat.le_refl _)]
   obtain ⟨g1,z1,z2,z3⟩:=C.cell.write1 (i:=0) (c:=.int .i64 (W.length:Int)) (by simp) rfl
   have kp1:∀ j,j≠h2.next->Kp h4 g1 j:=fun j hj=>But.kp z3 hj
   have r1:=z2.rd (off:=0) (n:=3) (l:=[.int .i64 (W.length:Int),ev',mv]) (by simp) rfl
   have v5:=Blk.kp (v2.mono C.hle) (kp1 h.next (by omega))
   obtain ⟨g2,y1,y2,y3⟩:=v5.write (off:=0) (vs:=[.int .i64 (W.length:Int),ev',mv]) (by simp) (one3 rfl C.en.one C.mo.one)
   have r2:=y2.rd (off:=0) (n:=3) (l:=[.int .i64 (W.length:Int),ev',mv]) (by simp) rfl
   have w5:=z3.wf C.wf C.lts.1
   have le5:=z3.hle (leh2.trans C.hle) hw (by omega)
   simp [wl,z1,r1,y1,r2]
   intro w
   subst hX'
   have o1:=own_kp C.en fun j hj=>Kp.trans (kp1 j (C.ge j hj).2.1) (But.kp y3 (by have:=(C.ge j hj).1;omega))
   have o2:=own_kp C.mo fun j hj=>Kp.trans (kp1 j (C.go j hj).2.1) (But.kp y3 (by have:=(C.go j hj).1;omega))
   have hge:=leh2.next
   refine H g2 ev' mv w (y3.hle le5 hw (Nat.le_refl _)) ⟨?_,?_,by simp only;omega,by simp only;omega,hok⟩ ⟨o1,o2,fun j hj=>by have:=(C.ge j hj).1;omega,fun j hj=>⟨by have:=(C.go j hj).1;omega,(C.go j hj).2.2.2.2⟩⟩
   ·exact o1.row1
   ·exact o2.row (by intro l hl;obtain ⟨x,_,rfl⟩:=List.mem_map.1 hl;rfl) (by simp) rfl
end Go.Ab.Z
namespace Go.Ab.Z
open Go Go.Ab
variable {h h':AHeap} {k:Post} {fe le en mo to:AVal} {A:PAlpha} {R:List (List Int)} {E:List Bool}
theorem MemL.begin2 (w:WF h) (c x:Int):∃ h2,updateA K3 (.map h.next) (.int .i64 c) (.int .i64 x) (h.new (.map 3 [] 0))=some (none,h2)/\h2.next=h.next+1 /\
  MemL h ((h2.newCells [.int .i64 0]).newCells [.int .i64 0,.nils,.nils]) (h.next+2) h.next (.slice (h.next+1) 0 1 1 1) .nils .nils [0] [(c,x)] [] []:=by
 have w1:=w.new (.map 3 [] 0)
 have le1:=Hle.new w (.map 3 [] 0)
 obtain ⟨h2,a1,a2,a3⟩:=(MapOf.new (K:=K3) (ek:=vI) (ev:=vI) h).update kd3 c x
 have w2:=a3.wf w1 (by simp)
 have le2:=a3.hle le1 w (Nat.le_refl _)
 have nx:h2.next=h.next+1:=by rw [a3.next];simp
 have w3:=w2.newCells [.int .i64 0]
 have le3:=Hle.newCells w2 [.int .i64 0]
 have w4:=w3.newCells [.int .i64 0,.nils,.nils]
 have le4:=Hle.newCells w3 [.int .i64 0,.nils,.nils]
 have b:=Blk.new (h2.newCells [.int .i64 0]) [.int .i64 0,.nils,.nils]
 have f:=ORow.fresh h2 (sz:=1) (n:=1) (cs:=[vI 0]) rfl
 simp only [next_newCells,nx] at b f
 refine ⟨h2,a1,nx,w4,le2.trans (le3.trans le4),b,(a2.mono le3).mono le4,f.mono le4,ORow.nil _ _,ORow.nil _ _,by omega,⟨Nat.le_refl _,by omega⟩,fun j hj=>?_,fun j hj=>(by cases hj),fun j hj=>(by cases hj)⟩
 simp [blkOf] at hj;subst hj;exact ⟨by omega,by omega,by omega⟩
set_option maxHeartbeats 2000000 in
theorem f68 (hG:IsGraph h to en R E) (hE:E.length=R.length) (hA:IsAlpha h fe le A) (hne:R≠[]) (hb:∀ r∈R,∀ t∈r,t < (R.length:Int)) (rl:∀ r∈R,r.length=A.letters.length) (hn:R.length<=4200) (hL:A.letters.length<=128)
  (H:∀ h' en mo,WF h'->Hle h h'->IsAuto h' en mo (leastX R E (A.letters.map PLetter.rune))->OwnAuto h h' en mo (leastX R E (A.letters.map PLetter.rune))->k (aV (leastX R E (A.letters.map PLetter.rune)).states en mo) h'):Cf 68 [.agg [to,en],.agg [fe,le]] h k:=by
 refine use_code compiled68 fun hw=>?_
 have hpos:0 < R.length:=by cases R with | nil=>exact absurd rfl hne | cons _ _=>simp
 have w1:=hw.newCells [to,en]
 have le1:=Hle.newCells hw [to,en]
 have w2:=w1.newCells [fe,le]
 have le2:=Hle.newCells w1 [fe,le]
 have w3:=w2.newCells [.int .i64 0,.nils,.nils]
 have le3:=Hle.newCells w2 [.int .i64 0,.nils,.nils]
 have leh:=(le1.trans le2).trans le3
 have vg:=((Blk.new h [to,en]).mono le2).mono le3
 have va:=(Blk.new (h.newCells [to,en]) [fe,le]).mono le3
 have vr:=Blk.new ((h.newCells [to,en]).newCells [fe,le]) [.int .i64 0,.nils,.nils]
 have rd0:=vg.rd (off:=0) (n:=2) (l:=[to,en]) (by simp) rfl
 simp only [next_newCells] at va vr
 simp [fn68,rd0]
 generalize hgg:((h.newCells [to,en]).newCells [fe,le]).newCells [.int .i64 0,.nils,.nils]=g0 at *
 have gn:g0.next=h.next+3:=by rw [<-hgg];simp
 refine f123 (hG.mono leh) hE hne hb rl hL hn fun h2 cv w2 le2 oc gc=>?_
 have vg:=vg.mono le2
 have va:=va.mono le2
 have vr:=vr.mono le2
 have leh2:=leh.trans le2
 have G2:=hG.mono leh2
 have A2:=hA.mono leh2
 have gx:h.next+2 < h2.next:=by have:=le2.next;omega
 clear w1 w3 le1 le3 leh rd0 le2 hgg gn gc
 have cl:=canonC_len R E
 generalize hcc:canonC R E=cc at *
 obtain ⟨c1,c2⟩:=orow_rd (i:=0) oc (by omega) (by omega)
 simp at c1
 have vz:valP cc 0=cc[0]:=valP_nat (t:=0) (by omega)
 simp [c1,c2]
 refine ap_split (fun hc=>?_) (fun hc=>?_)
 ·obtain ⟨h5,b1,b2,b3⟩:=vr.write (off:=0) (vs:=[.int .i64 1,.nils,.nils]) (by simp) rfl
  have rd:=b2.rd (off:=0) (n:=3) (l:=[.int .i64 1,.nils,.nils]) (by simp) rfl
  have hX:leastX R E (A.letters.map PLetter.rune)=⟨1,[],[]⟩:=by unfold leastX;rw [hcc,vz,if_pos hc]
  simp [listPut,b1,rd]
  intro w
  refine kcast (H h5 .nils .nils w (b3.hle leh2 hw (by omega)) ?_ ?_) (by rw [hX];rfl)
  rotate_left
  ·rw [hX];exact ⟨ORow.nil _ _,ORow.nil _ _,fun j hj=>(by cases hj),fun j hj=>(by cases hj)⟩
  rw [hX]
  exact ⟨(ORow.nil _ _).row1,⟨by simp,.inl ⟨rfl,rfl⟩⟩,by simp,by simp,⟨by unfold I64;simp,by simp,by simp⟩⟩
 ·obtain ⟨h3,u1,u2,M3⟩:=MemL.begin2 w2 (cc[0]) 1
  have u1:updateA ⟨3,false,[.int .i64]⟩ (.map h2.next) (.int .i64 cc[0]) (.int .i64 1) (h2.new (.map 3 [] 0))=some (none,h3):=u1
  have c2':=read1_hle (Hle.new w2 (.map 3 [] 0)) c2
  have hX:leastX R E (A.letters.map PLetter.rune)=let r:=bfsL R E (valP cc) (A.letters.map PLetter.rune) (R.length+1) 0 [0] [] [];⟨r.1.length,r.2.1,r.2.2⟩:=by unfold leastX;rw [hcc,vz,if_neg hc]
  have hok:=leastX_ok (R:=R) (E:=E) (sy:=A.letters.map PLetter.rune) (by simpa using hL) (fun c hc=>by obtain ⟨l,hl,rfl⟩:=List.mem_map.1 hc;exact (hA.ok l hl).1) (by omega)
  generalize leastX R E (A.letters.map PLetter.rune)=X at *
  generalize hsy:A.letters.map PLetter.rune=sy at *
  have syl:sy.length=A.letters.length:=by rw [<-hsy];simp
  simp [c1,c2',u1,u2,listPut]
  rw [L68_1]
  refine loop_by (σ:=AVal×Nat) (fun st h'=>∃ W mp en mo ev mv,MemL h2 h' (h2.next+2) h2.next st.1 ev mv W mp en mo/\st.2<=W.length/\WOk R.length (valP cc) W/\MapS mp (W.map (valP cc)) 1/\en.length<=st.2/\mo.length<=st.2*128 /\
    bfsL R E (valP cc) sy (R.length+1 - st.2) st.2 W en mo=bfsL R E (valP cc) sy (R.length+1) 0 [0] [] [])
   (fun st=>[(2,.ptr h.next 0),(3,.ptr (h.next+1) 0),(4,.ptr (h.next+2) 0),(5,cv),(6,.map h2.next),(7,st.1),(8,.ptr (h2.next+2) 0),(9,.int .i64 st.2)]) (fun st=>R.length - st.2) (.slice (h2.next+1) 0 1 1 1,0) (by simp) ?_ ?_
  ·refine ⟨[0],_,[],[],_,_,M3,by simp,⟨by simp,fun x hx=>by simp at hx;subst hx;omega⟩,?_,by simp,by simp,rfl⟩
   have:=(MapS.nil (κ:=Int) 1).push (c:=cc[0]) (by simp)
   simpa [aput,vz] using this
  clear M3 u1 c2' c1 c2
  rintro ⟨wv,i⟩ h4 K ⟨W,mp,en',mo,ev',mv,C,hi,wo,ms,hen,hmo,hrun⟩ hK
  simp only at C hi hen hmo hrun hK
  have wl:=C.work.len
  have wle:=wo.le
  simp [wl]
  refine ap_split (fun hd=>?_) (fun hd=>?_)
  ·have hd:i < W.length:=by omega
   obtain ⟨s,hs⟩:=Int.eq_ofNat_of_zero_le (wo.rg W[i] (List.getElem_mem hd)).1
   have hsl:s < R.length:=by have:=(wo.rg W[i] (List.getElem_mem hd)).2;omega
   have hsE:s < E.length:=by omega
   obtain ⟨p1,p2⟩:=orow_rd (i:=i) C.work hd hd
   rw [hs] at p2
   have wr:wrapF .i64 ((i:Int)+1)=(i:Int)+1:=wrap64 (by omega) (by omega)
   have q3:=(vg.mono C.hle).rd1 (i:=1) (c:=en) rfl
   have e1:=G2.en.idx (i:=s) (by simpa using hsE) .i64
   have e2:=(G2.en.mono C.hle).rd (i:=s) (c:=.bool E[s]) (by simp [hsE])
   obtain ⟨x,a1,a2,a3⟩:=G2.to.get hsl
   have xl:=a3.len
   simp only [List.length_map] at xl
   have hrl:R[s].length=A.letters.length:=rl _ (List.getElem_mem hsl)
   have Es:E.getD s false=E[s]:=by rw [List.getD_eq_getElem?_getD,List.getElem?_eq_getElem hsE];rfl
   have Rs:R.getD s []=R[s]:=by rw [List.getD_eq_getElem?_getD,List.getElem?_eq_getElem hsl];rfl
   have mid:∀ (h6:AHeap) (T:PT AVal) (en:List Int) (ev':AVal),MemL h2 h6 (h2.next+2) h2.next wv ev' mv W mp en mo->en.length<=i+1 ->
     bfsL R E (valP cc) sy (R.length - i) (i+1) (rowL (valP cc) i (R[s].zip sy) W mo).1 en (rowL (valP cc) i (R[s].zip sy) W mo).2=bfsL R E (valP cc) sy (R.length+1) 0 [0] [] [] ->
     Has T [(2,.ptr h.next 0),(3,.ptr (h.next+1) 0),(4,.ptr (h.next+2) 0),(5,cv),(6,.map h2.next),(7,wv),(8,.ptr (h2.next+2) 0),(9,.int .i64 i),(10,.int .i64 s)]->∀ {kx:Kx} {kr:Kn} {kx':Kx} {kr':Kn},run lpI c68_17 (cfP PP []) (run lpI c68_38 (cfP PP []) K kx kr) kx' kr' T h6:=by
    intro h6 T en ev' C hen hrun hT kx kr kx' kr'
    obtain ⟨t2,t3,t4,t5,t6,t7,t8,t9,t10,_⟩:=hT
    simp at t2 t3 t4 t5 t6 t7 t8 t9 t10
    simp [PT.get_put,t2,t3,t4,t5,t6,t7,t8,t9,t10]
    have zl:(R[s].zip sy).length=R[s].length:=by rw [List.length_zip];omega
    rw [L68_2]
    refine loop_by (σ:=Nat×AVal) (fun st h'=>st.1<=R[s].length/\∃ W' mp mo' mv,MemL h2 h' (h2.next+2) h2.next st.2 ev' mv W' mp en mo'/\i < W'.length/\WOk R.length (valP cc) W'/\MapS mp (W'.map (valP cc)) 1/\mo'.length<=i*128+st.1 /\
      rowL (valP cc) i ((R[s].zip sy).drop st.1) W' mo'=rowL (valP cc) i (R[s].zip sy) W mo)
     (fun st=>[(2,.ptr h.next 0),(3,.ptr (h.next+1) 0),(4,.ptr (h.next+2) 0),(5,cv),(6,.map h2.next),(7,st.2),(8,.ptr (h2.next+2) 0),(9,.int .i64 i),(10,.int .i64 s),(11,.int .i64 st.1)]) (fun st=>R[s].length - st.1) (0,wv) ?_ ?_ ?_
    ·refine ⟨?_,?_,?_,?_,?_,?_,?_,?_,?_,?_,trivial⟩<;>simp [PT.get_put,t2,t3,t4,t5,t6,t7,t8,t9,t10]
    ·exact ⟨Nat.zero_le _,W,mp,mo,mv,C,hd,wo,ms,by simp;omega,rfl⟩
    clear t2 t3 t4 t5 t6 t7 t8 t9 t10
    rintro ⟨j,wv⟩ h7 K2 ⟨hj,W',mp,mo',mv,C,hiW,wo,ms,hmo',rr⟩ hK2
    simp only at hj C hmo' rr hK2
    have q0:=(vg.mono C.hle).rd1 (i:=0) (c:=to) rfl
    have a2':=read1_hle C.hle a2
    simp [q0,a1,a2',xl]
    refine ap_split (fun hq=>?_) (fun hq=>?_)
    ·have hq:j < R[s].length:=by omega
     have b1:=a3.idx (i:=j) (by simpa using hq) .i64
     have b3:=(a3.mono C.hle).rd (i:=j) (c:=vI R[s][j]) (by simp [hq])
     have wrj:wrapF .i64 ((j:Int)+1)=(j:Int)+1:=wrap64 (by omega) (by omega)
     have hz:(R[s].zip sy)[j]'(by omega)=(R[s][j],sy[j]'(by omega)):=by simp
     rw [rowL_drop (by omega)] at rr
     rw [hz] at rr
     simp only at rr
     by_cases hx:R[s][j] < 0
     ·rw [if_pos (.inl hx)] at rr
      simp [q0,a1,a2',b1,b3,vI,hx,wrj]
      refine hK2 (j+1,wv) _ _ (by simp;omega) ?_ ⟨by simp;omega,W',mp,mo',mv,C,hiW,wo,ms,by simp;omega,rr⟩
      simp
     ·obtain ⟨t,ht⟩:=Int.eq_ofNat_of_zero_le (by omega:0<=R[s][j])
      have htl:t < R.length:=by have:=hb R[s] (List.getElem_mem hsl) R[s][j] (List.getElem_mem hq);omega
      have oc7:=oc.mono C.hle
      obtain ⟨d1,d2⟩:=orow_rd (i:=t) oc7 (by omega) htl
      have vt:valP cc (t:Int)=cc[t]:=valP_nat (by omega)
      have ht0:¬ (t:Int) < 0:=by omega
      rw [ht] at rr b3
      rw [vt] at rr
      by_cases hy:cc[t] < 0
      ·rw [if_pos (.inr hy)] at rr
       simp [q0,a1,a2',b1,b3,vI,ht0,d1,d2,hy,wrj]
       refine hK2 (j+1,wv) _ _ (by simp;omega) ?_ ⟨by simp;omega,W',mp,mo',mv,C,hiW,wo,ms,by simp;omega,rr⟩
       simp
      ·rw [if_neg (by omega)] at rr
       have lk:=C.map.lookup kd3 cc[t] (.int .i64 0) false
       have wle0:=wo.le
       have edge:∀ (h8:AHeap) (T:PT AVal) (wv:AVal) (W'':List Int) (mp:List (Int×Int)),MemL h2 h8 (h2.next+2) h2.next wv ev' mv W'' mp en mo'->i < W''.length->WOk R.length (valP cc) W''->MapS mp (W''.map (valP cc)) 1 ->
         aget mp cc[t]=some ((idxK (W'.map (valP cc)) cc[t]:Int)+1)->(if cc[t]∈W'.map (valP cc) then W' else W'++[(t:Int)])=W'' ->
         Has T [(2,.ptr h.next 0),(3,.ptr (h.next+1) 0),(4,.ptr (h.next+2) 0),(5,cv),(6,.map h2.next),(7,wv),(8,.ptr (h2.next+2) 0),(9,.int .i64 i),(10,.int .i64 s),(11,.int .i64 j),(12,.int .i64 t)] ->
         ∀ {kx:Kx} {kr:Kn} {kx':Kx} {kr':Kn},run lpI c68_27 (cfP PP []) (run lpI c68_31 (cfP PP []) K2 kx kr) kx' kr' T h8:=by
        intro h8 T wv W'' mp C hiW wo ms hag hW hT kx kr kx' kr'
        obtain ⟨t2,t3,t4,t5,t6,t7,t8,t9,t10,t11,t12,_⟩:=hT
        simp at t2 t3 t4 t5 t6 t7 t8 t9 t10 t11 t12
        have hjl:j < A.letters.length:=by omega
        obtain ⟨d1,d2⟩:=orow_rd (i:=t) (oc.mono C.hle) (by omega) htl
        have y1:=C.cell.rd1 (i:=2) (c:=mv) rfl
        have y2:=(va.mono C.hle).rd1 (i:=1) (c:=le) rfl
        have y3:=hA.le.idx (i:=j) (by simpa using hjl) .i64
        have y4:=(A2.le.mono C.hle).rd1_0 (i:=j) (l:=A.letters[j].cells) (c:=.int .i32 A.letters[j].rune) (by simp [hjl]) rfl
        have lk:=C.map.lookup kd3 cc[t] (.int .i64 0) false
        rw [hag] at lk
        have lk:lookupA ⟨3,false,[.int .i64]⟩ (.int .i64 0) false (.map h2.next) (.int .i64 cc[t]) h8=some (.int .i64 ((idxK (W'.map (valP cc)) cc[t]:Int)+1)):=lk
        have ixl:=idxK_le (W'.map (valP cc)) cc[t]
        rw [List.length_map] at ixl
        have ws:wrapF .i64 (idxK (W'.map (valP cc)) cc[t]:Int)=(idxK (W'.map (valP cc)) cc[t]:Int):=wrap64 (by omega) (by omega)
        obtain ⟨g2,g3,z1,z2,C3⟩:=C.pushM w2 ⟨(i:Int),(idxK (W'.map (valP cc)) cc[t]:Int),A.letters[j].rune⟩ (by omega)
        have y5:=(C.cell.mono (Hle.newCells C.wf [.int .i64 (i:Int),.int .i64 (idxK (W'.map (valP cc)) cc[t]:Int),.int .i32 A.letters[j].rune])).rd1 (i:=2) (c:=mv) rfl
        have sm:=same_orow C.mo
        simp only [PMove.cells] at z1
        simp [PT.get_put,t2,t3,t4,t5,t6,t7,t8,t9,t10,t11,t12,d1,d2,lk,ws,y1,y2,y3,y4,listPut,y5,sm,z1,z2,wrj]
        have hsj:sy[j]'(by omega)=A.letters[j].rune:=by simp only [<-hsy,List.getElem_map]
        rw [hW] at rr
        rw [hsj] at rr
        refine hK2 (j+1,wv) _ _ (by simp;omega) ?_ ⟨by simp;omega,W'',mp,_,_,C3,hiW,wo,ms,by simp;omega,rr⟩
        refine ⟨?_,?_,?_,?_,?_,?_,?_,?_,?_,?_,trivial⟩<;>simp [PT.get_put,t2,t3,t4,t5,t6,t7,t8,t9,t10,t11,t12]
       by_cases hin:cc[t]∈W'.map (valP cc)
       ·have hag:=ms.old hin
        rw [hag] at lk
        have lk:lookupA ⟨3,false,[.int .i64]⟩ (.int .i64 0) false (.map h2.next) (.int .i64 cc[t]) h7=some (.int .i64 ((idxK (W'.map (valP cc)) cc[t]:Int)+1)):=lk
        have nz:¬ ((idxK (W'.map (valP cc)) cc[t]:Int)+1=0):=by omega
        simp [-x68_27,q0,a1,a2',b1,b3,vI,ht0,d1,d2,hy,lk,nz]
        refine edge _ _ _ W' mp C hiW wo ms hag (by rw [if_pos hin]) ?_
        simp
       ·rw [ms.new hin] at lk
        have lk:lookupA ⟨3,false,[.int .i64]⟩ (.int .i64 0) false (.map h2.next) (.int .i64 cc[t]) h7=some (.int .i64 0):=lk
        have wle':=wo.le
        obtain ⟨g1,f1,C1⟩:=C.pushW w2 (t:Int) (by omega)
        have wl':=C1.work.len
        simp only [List.length_append,List.length_singleton] at wl'
        obtain ⟨d3,d4⟩:=orow_rd (i:=t) (oc.mono C1.hle) (by omega) htl
        obtain ⟨g2,f2,C2⟩:=C1.upd w2 cc[t] ((W'.length:Int)+1)
        have f2:updateA ⟨3,false,[.int .i64]⟩ (.map h2.next) (.int .i64 cc[t]) (.int .i64 ((W'.length:Int)+1)) g1=some (none,g2):=f2
        have ix:idxK (W'.map (valP cc)) cc[t]=W'.length:=by rw [idxK_new hin];simp
        simp at wl'
        simp [-x68_27,q0,a1,a2',b1,b3,vI,ht0,d1,d2,hy,lk,listPut,f1,d4,wl',f2]
        refine edge _ _ _ (W'++[(t:Int)]) _ C2 (by simp;omega) (wo.push (by omega) (by omega) (by rw [vt];exact hin)) ?_ (by rw [aget_aput,if_pos rfl,ix]) (by rw [if_neg hin]) ?_
        ·have:=ms.push hin
         rw [List.length_map] at this
         rw [List.map_append,List.map_cons,vt]
         exact this
        ·simp
    ·have:j=R[s].length:=by omega
     subst this
     rw [<-zl,List.drop_length] at rr
     simp only [rowL] at rr
     rw [<-rr] at hrun
     simp [wr]
     refine hK (wv,i+1) _ _ (by simp;omega) ?_ ⟨W',mp,en,mo',ev',mv,C,by simp;omega,wo,ms,hen,by simp;omega,?_⟩
     ·simp
     ·rw [show R.length+1 - (i+1)=R.length - i by omega];exact hrun
   have hrun':bfsL R E (valP cc) sy (R.length - i) (i+1) (rowL (valP cc) i (R[s].zip sy) W mo).1 (if E[s]=true then en'++[(i:Int)] else en') (rowL (valP cc) i (R[s].zip sy) W mo).2=bfsL R E (valP cc) sy (R.length+1) 0 [0] [] []:=by
    rw [<-hrun,show R.length+1 - i=(R.length - i)+1 by omega]
    simp only [bfsL,List.getElem?_eq_getElem hd,hs]
    simp only [Int.toNat_natCast,Es,Rs]
   simp [-x68_17,p1,p2,q3,e1,e2]
   refine ap_cases (fun hq=>?_) (fun hq=>?_)
   ·rw [if_pos hq] at hrun'
    obtain ⟨g2,g3,z1,z2,C2⟩:=C.pushE w2 (i:Int) (by omega)
    have y1:=C.cell.rd1 (i:=1) (c:=ev') rfl
    simp [-x68_17,y1,listPut,z1,z2]
    refine mid _ _ _ _ C2 (by simp;omega) hrun' ?_
    simp
   ·rw [hq,if_neg (by simp)] at hrun'
    simp [-x68_17]
    refine mid _ _ _ _ C (by omega) hrun' ?_
    simp
  ·have:i=W.length:=by omega
   subst this
   have hX':X=⟨W.length,en',mo⟩:=by
    rw [hX,<-hrun,show R.length+1 - W.length=(R.length - W.length)+1 by omega]
    simp only [bfsL,List.getElem?_eq_none (Nat.le_refl _)]
   obtain ⟨g1,z1,z2,z3⟩:=C.cell.write1 (i:=0) (c:=.int .i64 (W.length:Int)) (by simp) rfl
   have kp1:∀ j,j≠h2.next+2->Kp h4 g1 j:=fun j hj=>But.kp z3 hj
   have r1:=z2.rd (off:=0) (n:=3) (l:=[.int .i64 (W.length:Int),ev',mv]) (by simp) rfl
   have v5:=Blk.kp (vr.mono C.hle) (kp1 _ (by omega))
   obtain ⟨g2,y1,y2,y3⟩:=v5.write (off:=0) (vs:=[.int .i64 (W.length:Int),ev',mv]) (by simp) (one3 rfl C.en.one C.mo.one)
   have r2:=y2.rd (off:=0) (n:=3) (l:=[.int .i64 (W.length:Int),ev',mv]) (by simp) rfl
   have w5:=z3.wf C.wf C.lts.1
   have le5:=z3.hle (leh2.trans C.hle) hw (by omega)
   simp [wl,z1,r1,y1,r2]
   intro w
   subst hX'
   have o1:=own_kp C.en fun j hj=>Kp.trans (kp1 j (C.ge j hj).2.1) (But.kp y3 (by have:=(C.ge j hj).1;omega))
   have o2:=own_kp C.mo fun j hj=>Kp.trans (kp1 j (C.go j hj).2.1) (But.kp y3 (by have:=(C.go j hj).1;omega))
   have hge:=leh2.next
   refine H g2 ev' mv w (y3.hle le5 hw (by omega)) ⟨?_,?_,by simp only;omega,by simp only;omega,hok⟩ ⟨o1,o2,fun j hj=>by have:=(C.ge j hj).1;omega,fun j hj=>⟨by have:=(C.go j hj).1;omega,(C.go j hj).2.2.2.2⟩⟩
   ·exact o1.row1
   ·exact o2.row (by intro l hl;obtain ⟨x,_,rfl⟩:=List.mem_map.1 hl;rfl) (by simp) rfl
end Go.Ab.Z
namespace Go.Ab.Z
open Go Go.Ab
variable {h h':AHeap} {k:Post}
def hasW (ws:List Nat) (n:Nat):Bool:=(ws.getD (n / 64) 0).testBit (n % 64)
def putW (ws:List Nat) (n:Nat):List Nat:=ws.set (n / 64) ((ws.getD (n / 64) 0) ||| (2 ^ (n % 64)))
structure SetW (ws:List Nat):Prop where
 len:ws.length=64
 bd:∀ w∈ws,w < 18446744073709551616
def uI (w:Nat):AVal:=.int .u64 (w:Int)
theorem SetW.get {ws:List Nat} (s:SetW ws) (i:Nat):ws.getD i 0 < 18446744073709551616:=by
 rw [List.getD_eq_getElem?_getD]
 cases e:ws[i]? with
 | none=>simp
 | some w=>exact s.bd w (List.mem_of_getElem? e)
theorem pow_lt64 {n:Nat} (h:n < 64):2 ^ n < 18446744073709551616:=by
 have:=Nat.pow_lt_pow_right (a:=2) (by omega) h
 exact Nat.lt_of_lt_of_eq this (by decide)
theorem or_lt64 {a b:Nat} (ha:a < 18446744073709551616) (hb:b < 18446744073709551616):a ||| b < 18446744073709551616:=by
 have e:(18446744073709551616:Nat)=2 ^ 64:=by decide
 rw [e] at ha hb ⊢
 exact Nat.or_lt_two_pow ha hb
theorem SetW.put {ws:List Nat} (s:SetW ws) (n:Nat):SetW (putW ws n):=by
 refine ⟨by simp [putW,s.len],fun w hw=>?_⟩
 unfold putW at hw
 rcases List.mem_or_eq_of_mem_set hw with h | h
 ·exact s.bd w h
 ·rw [h];exact or_lt64 (s.get _) (pow_lt64 (Nat.mod_lt _ (by omega)))
theorem hasW_put {ws:List Nat} (s:SetW ws) {n:Nat} (hn:n < 4096) (m:Nat):hasW (putW ws n) m=(decide (m=n) || hasW ws m):=by
 unfold hasW putW
 have hl:n / 64 < ws.length:=by rw [s.len];omega
 by_cases hd:m / 64=n / 64
 ·rw [hd,List.getD_eq_getElem?_getD,List.getElem?_set_self hl]
  simp only [Option.getD_some,Nat.testBit_or,Nat.testBit_two_pow]
  rw [Bool.or_comm]
  congr 1
  rw [Bool.eq_iff_iff];simp;omega
 ·rw [List.getD_eq_getElem?_getD,List.getElem?_set_ne (fun e=>hd e.symm),<-List.getD_eq_getElem?_getD]
  have:m≠n:=fun e=>hd (by rw [e])
  simp [this]
def emptyW:List Nat:=List.replicate 64 0
theorem emptyW_ok:SetW emptyW:=⟨by simp [emptyW],fun w hw=>by rw [List.eq_of_mem_replicate hw];omega⟩
theorem hasW_empty (n:Nat):hasW emptyW n=false:=by
 unfold hasW emptyW
 rw [List.getD_eq_getElem?_getD,List.getElem?_replicate]
 split<;>simp
theorem setW_ext {a b:List Nat} (ha:SetW a) (hb:SetW b) (h:∀ n,n < 4096->hasW a n=hasW b n):a=b:=by
 apply List.ext_getElem (by rw [ha.len,hb.len])
 intro i h1 h2
 have hi:i < 64:=by rw [<-ha.len];exact h1
 apply Nat.eq_of_testBit_eq
 intro j
 by_cases hj:j < 64
 ·have:=h (i*64+j) (by omega)
  unfold hasW at this
  rw [show (i*64+j) / 64=i by omega,show (i*64+j) % 64=j by omega,List.getD_eq_getElem?_getD,List.getD_eq_getElem?_getD,List.getElem?_eq_getElem h1,List.getElem?_eq_getElem h2] at this
  exact this
 ·have bit:∀ w,w < 18446744073709551616->w.testBit j=false:=fun w hw=>Nat.testBit_lt_two_pow (Nat.lt_of_lt_of_le hw (by
   have:2 ^ 64<=2 ^ j:=Nat.pow_le_pow_right (by omega) (by omega)
   exact Nat.le_trans (by decide) this))
  rw [bit _ (ha.bd _ (List.getElem_mem h1)),bit _ (hb.bd _ (List.getElem_mem h2))]
theorem wrapN64 {n:Nat} (h:n < 18446744073709551616):wrapF .u64 (n:Int)=(n:Int):=by
 show bi (Nat.ble (n+1) 18446744073709551616) (Int.ofNat n) _=_
 rw [nble,bi_eq,if_pos]
 ·rfl
 ·simp;omega
theorem wrapK64 {n:Nat} (h:n < 18446744073709551616):IntKind.wrap .u64 (n:Int)=(n:Int):=by
 unfold IntKind.wrap
 simp [IntKind.signed,IntKind.bits]
 omega
theorem bv64 {a:Nat} (ha:a < 18446744073709551616):(BitVec.ofInt 64 (a:Int)).toNat=a:=by
 rw [BitVec.ofInt_natCast,BitVec.toNat_ofNat,Nat.mod_eq_of_lt (by omega)]
theorem shl64 {b:Nat} (hb:b < 64):binI .shl .u64 .i64 1 (b:Int)=some (uI (2 ^ b)):=by
 show some (AVal.int .u64 (wrapF .u64 (1*2 ^ (min b 64))))=_
 rw [Nat.min_eq_left (by omega),Int.one_mul,show ((2:Int) ^ b)=((2 ^ b:Nat):Int) by simp,wrapN64 (pow_lt64 hb)]
 rfl
theorem or64 {a b:Nat} (ha:a < 18446744073709551616) (hb:b < 18446744073709551616):binI .or .u64 .u64 (a:Int) (b:Int)=some (uI (a ||| b)):=by
 show bi (sameK .u64 .u64) (some (AVal.int .u64 (IntKind.wrap .u64 (BitVec.ofInt 64 a ||| BitVec.ofInt 64 b).toNat))) none=_
 rw [sameK_self,bi_true]
 rw [BitVec.toNat_or,bv64 ha,bv64 hb,wrapK64 (or_lt64 ha hb)]
 rfl
theorem andN64 {a b:Nat} (ha:a < 18446744073709551616) (hb:b < 18446744073709551616):binI .and .u64 .u64 (a:Int) (b:Int)=some (uI (a &&& b)):=by
 show bi (sameK .u64 .u64) (some (AVal.int .u64 (IntKind.wrap .u64 (BitVec.ofInt 64 a &&& BitVec.ofInt 64 b).toNat))) none=_
 rw [sameK_self,bi_true]
 rw [BitVec.toNat_and,bv64 ha,bv64 hb,wrapK64 (Nat.lt_of_le_of_lt Nat.and_le_left ha)]
 rfl
theorem shrN64 {a b:Nat} (hb:b < 64):binI .shr .u64 .i64 (a:Int) (b:Int)=some (uI (a >>> b)):=by
 show some (AVal.int .u64 ((a:Int).fdiv (2 ^ (min b 64))))=_
 have e:((2:Int) ^ b)=((2 ^ b:Nat):Int):=by simp
 rw [Nat.min_eq_left (by omega),e,Int.fdiv_eq_ediv_of_nonneg _ (Int.natCast_nonneg _),Nat.shiftRight_eq_div_pow]
 simp [uI]
theorem quo64 (a:Nat) (ha:a < 100000):binI .quo .i64 .i64 (a:Int) 64=some (.int .i64 ((a / 64:Nat):Int)):=by
 show bi (sameK .i64 .i64) (bi (eqI 64 0) none (some (AVal.int .i64 (wrapF .i64 ((a:Int).tdiv 64))))) none=_
 rw [sameK_self,bi_true,eqI_eq]
 rw [show ((a:Int).tdiv 64)=((a / 64:Nat):Int) from by rw [Int.tdiv_eq_ediv_of_nonneg (by omega)];omega,wrap64 (by omega) (by omega)]
 rfl
theorem rem64 (a:Nat):binI .rem .i64 .i64 (a:Int) 64=some (.int .i64 ((a % 64:Nat):Int)):=by
 show bi (sameK .i64 .i64) (bi (eqI 64 0) none (some (AVal.int .i64 ((a:Int).tmod 64)))) none=_
 rw [sameK_self,bi_true,eqI_eq]
 rw [show ((a:Int).tmod 64)=((a % 64:Nat):Int) from by rw [Int.tmod_eq_emod_of_nonneg (by omega)];omega]
 rfl
theorem and_one (w:Nat):w &&& 1=if w.testBit 0=true then 1 else 0:=by
 rw [Nat.and_one_is_mod,Nat.testBit_zero]
 split<;>rename_i h<;>simp at h<;>omega
theorem f77 {b:Nat} {ws:List Nat} (v:Blk h b (ws.map uI)) (s:SetW ws) {n:Nat} (hn:n < 4096) (H:∀ h',WF h'->But b h h'->Blk h' b ((putW ws n).map uI)->k (oneOr []) h'):Cf 77 [.ptr b 0,.int .i64 (n:Int)] h k:=by
 refine use_code compiled77 fun hw=>?_
 have hl:n / 64 < ws.length:=by rw [s.len];omega
 have q1:=quo64 n (by omega)
 have q2:=rem64 n
 have q3:=shl64 (b:=n % 64) (by omega)
 have rd:=v.rd1 (i:=n / 64) (c:=uI (ws[n / 64])) (by simp [hl])
 have gd:ws.getD (n / 64) 0=ws[n / 64]:=by rw [List.getD_eq_getElem?_getD,List.getElem?_eq_getElem hl];rfl
 have q4:=or64 (s.bd _ (List.getElem_mem hl)) (pow_lt64 (n:=n % 64) (by omega))
 obtain ⟨h2,a1,a2,a3⟩:=v.write1 (i:=n / 64) (c:=uI (ws[n / 64] ||| 2 ^ (n % 64))) (by simpa using hl) rfl
 have hle:n / 64<=63:=by omega
 simp only [uI] at q3 rd q4 a1
 simp [fn77,-Int.natCast_ediv,-Int.natCast_emod,-Int.natCast_pow,q1,q2,q3,indexAddrA,nble,hle,rd,q4,a1]
 intro w
 refine H h2 w a3 ?_
 unfold putW
 rw [gd,List.map_set]
 exact a2
theorem f78 {ws:List Nat} (s:SetW ws) {b:Nat} (v:Blk h b (ws.map uI)) {n:Nat} (hn:n < 4096) (H:WF h->k (.bool (hasW ws n)) h):Cf 78 [.ptr b 0,.int .i64 (n:Int)] h k:=by
 refine use_code compiled78 fun hw=>?_
 have hl:n / 64 < ws.length:=by rw [s.len];omega
 have q1:=quo64 n (by omega)
 have q2:=rem64 n
 have rd:=v.rd1 (i:=n / 64) (c:=uI (ws[n / 64])) (by simp [hl])
 have gd:ws.getD (n / 64) 0=ws[n / 64]:=by rw [List.getD_eq_getElem?_getD,List.getElem?_eq_getElem hl];rfl
 have q3:=shrN64 (a:=ws[n / 64]) (b:=n % 64) (by omega)
 have q4:=andN64 (a:=ws[n / 64] >>> (n % 64)) (b:=1) (Nat.lt_of_le_of_lt (Nat.shiftRight_le _ _) (s.bd _ (List.getElem_mem hl))) (by omega)
 have hle:n / 64<=63:=by omega
 have fin:hasW ws n=decide ((ws[n / 64] >>> (n % 64)) &&& 1≠0):=by
  unfold hasW
  rw [gd,and_one,Nat.testBit_shiftRight,Nat.add_zero]
  cases ws[n / 64].testBit (n % 64)<;>simp
 simp only [uI] at q3 rd q4
 generalize ws[n / 64] >>> (n % 64)=y at *
 generalize y &&& 1=z at *
 simp only [Int.natCast_one] at q4
 simp [fn78,-Int.natCast_ediv,-Int.natCast_emod,-Int.natCast_pow,q1,q2,q3,indexAddrA,nble,hle,rd,q4]
 intro w
 refine kcast (H w) ?_
 rw [fin]
 congr 1
 rw [Bool.eq_iff_iff];simp
end Go.Ab.Z
namespace Go.Ab.Z
open Go Go.Ab
variable {h h':AHeap} {k:Post} {fe le en mo:AVal} {A:PAlpha} {X:PAuto}
theorem f137 {ws:List Nat} (s:SetW ws) {b:Nat} (v:Blk h b (ws.map uI)) {n:Nat} (hn:n < 4096) (H:WF h->k (.bool (hasW ws n)) h):Cf 137 [.int .i64 (n:Int),.ptr b 0] h k:=by
 refine use_code compiled137 fun hw=>?_
 simp [fn137]
 refine f78 s v hn fun w=>?_
 simp
 exact H
theorem f133 {ws:List Nat} (s:SetW ws) {b:Nat} (v:Blk h b (ws.map uI)) {l:List Int} {r:AVal} (hr:Row1 h r (l.map vI)) (hl:l.length<=1048577) (hb:∀ x∈l,0<=x/\x < 4096)
  (H:∀ i:Int,(0<=i↔(l.any fun x=>hasW ws x.toNat)=true)->WF h->k (.int .i64 i) h):Cf 133 [r,.func 137 [] [.ptr b 0]] h k:=by
 refine use_code compiled133 fun hw=>?_
 have rlen:=hr.len
 simp only [List.length_map] at rlen
 simp [fn133,rlen]
 rw [L133_1]
 refine loop_by (σ:=Nat) (fun i h'=>i<=l.length/\h'=h/\∀ x∈l.take i,hasW ws x.toNat=false)
  (fun i=>[(0,r),(1,.func 137 [] [.ptr b 0]),(7,.int .i64 l.length),(8,.int .i64 i)]) (fun i=>l.length - i) 0 (by simp) ?_ ?_
 ·exact ⟨Nat.zero_le _,rfl,by simp⟩
 rintro i h' K ⟨hi,rfl,ht⟩ hK
 simp
 refine ap_split (fun hc=>?_) (fun hc=>?_)
 ·have hc:i < l.length:=by omega
  have a1:=hr.idx (i:=i) (by simpa using hc) .i64
  have a2:=hr.rd (i:=i) (c:=vI l[i]) (by simp [hc])
  have hx:=hb l[i] (List.getElem_mem hc)
  obtain ⟨n,hn⟩:=Int.eq_ofNat_of_zero_le hx.1
  rw [hn] at a2
  simp [a1,a2,vI]
  refine f137 s v (n:=n) (by omega) fun w=>?_
  simp
  refine ap_cases (fun hq=>?_) (fun hq=>?_)
  ·simp
   refine fun w=>H i ⟨fun _=>?_,fun _=>by omega⟩ w
   rw [List.any_eq_true]
   exact ⟨l[i],List.getElem_mem hc,by rw [hn];simpa using hq⟩
  ·simp
   rw [wrap64 (by omega) (by omega)]
   refine hK (i+1) _ _ (by omega) (by simp) ⟨by omega,rfl,fun x hx=>?_⟩
   rw [List.take_succ_eq_append_getElem hc] at hx
   rcases List.mem_append.1 hx with hx | hx
   ·exact ht x hx
   ·simp at hx;subst hx;rw [hn];simpa using hq
 ·have:i=l.length:=by omega
  subst this
  rw [List.take_length] at ht
  simp
  refine fun w=>H (-1) ⟨fun h=>by omega,fun h=>?_⟩ w
  obtain ⟨x,h1,h2⟩:=List.any_eq_true.1 h
  rw [ht x h1] at h2;cases h2
theorem f79 {ws:List Nat} (s:SetW ws) {b:Nat} (v:Blk h b (ws.map uI)) {l:List Int} {r:AVal} (hr:Row1 h r (l.map vI)) (hl:l.length<=1048577) (hb:∀ x∈l,0<=x/\x < 4096)
  (H:WF h->k (.bool (l.any fun x=>hasW ws x.toNat)) h):Cf 79 [r,.func 137 [] [.ptr b 0]] h k:=by
 refine use_code compiled79 fun hw=>?_
 simp [fn79]
 refine f133 s v hr hl hb fun i hi w=>?_
 simp
 refine fun w=>kcast (H w) ?_
 congr 1
 rw [Bool.eq_iff_iff,<-hi];simp
theorem f136 {ws:List Nat} (s:SetW ws) {xb:Nat} {st:Int} (v:Blk h xb [.int .i64 st,en,mo]) {l:List Int} (hr:Row1 h en (l.map vI)) (hl:l.length<=1048577) (hb:∀ x∈l,0<=x/\x < 4096)
  (H:∀ h',WF h'->Hle h h'->k (.bool (l.any fun x=>hasW ws x.toNat)) h'):Cf 136 [.agg (ws.map uI),.ptr xb 0] h k:=by
 refine use_code compiled136 fun hw=>?_
 have w1:=hw.newCells (ws.map uI)
 have le1:=Hle.newCells hw (ws.map uI)
 have r1:=(v.mono le1).rd1 (i:=1) (c:=en) rfl
 simp [fn136,r1]
 refine f79 s (Blk.new h (ws.map uI)) (hr.mono le1) hl hb fun w=>?_
 simp
 exact fun w=>H _ w le1
def membersW (ws:List Nat) (n:Nat):List Int:=((List.range n).filter fun i=>hasW ws i).map fun i:Nat=>(i:Int)
theorem membersW_succ (ws:List Nat) (n:Nat):membersW ws (n+1)=membersW ws n++if hasW ws n=true then [(n:Int)] else []:=by
 unfold membersW
 rw [List.range_succ,List.filter_append,List.map_append]
 congr 1
 by_cases hh:hasW ws n=true<;>simp [hh]
theorem membersW_len (ws:List Nat) (n:Nat):(membersW ws n).length<=n:=by
 have:=List.length_filter_le (fun i=>hasW ws i) (List.range n)
 simpa [membersW] using this
theorem f135 {ws:List Nat} (s:SetW ws) {xb:Nat} {st:Nat} (v:Blk h xb [.int .i64 (st:Int),en,mo]) (hst:st<=4096)
  (H:∀ h' r,WF h'->Hle h h'->ORow h' 1 r (membersW ws st).length ((membersW ws st).map vI)->(∀ j∈blkOf r,h.next<=j)->k r h'):Cf 135 [.agg (ws.map uI),.ptr xb 0] h k:=by
 refine use_code compiled135 fun hw=>?_
 have w1:=hw.newCells (ws.map uI)
 have le1:=Hle.newCells hw (ws.map uI)
 have r1:=(v.mono le1).rd1 (i:=0) (c:=.int .i64 (st:Int)) rfl
 have b1:=Blk.new h (ws.map uI)
 simp [fn135,r1]
 rw [L135_1]
 refine loop_by (σ:=Nat×AVal) (fun p h'=>p.1<=st/\WF h'/\Hle (h.newCells (ws.map uI)) h'/\ORow h' 1 p.2 (membersW ws p.1).length ((membersW ws p.1).map vI)/\∀ j∈blkOf p.2,(h.newCells (ws.map uI)).next<=j)
  (fun p=>[(2,.ptr h.next 0),(4,p.2),(7,.int .i64 st),(8,.int .i64 p.1)]) (fun p=>st - p.1) (0,.nils) (by simp) ?_ ?_
 ·exact ⟨Nat.zero_le _,w1,Hle.refl _,by simpa [membersW] using ORow.nil _ 1,fun j hj=>by cases hj⟩
 rintro ⟨i,a⟩ h3 K ⟨hi,w3,le3,oa,ga⟩ hK
 simp only at hi oa ga hK
 simp
 refine ap_split (fun hc=>?_) (fun hc=>?_)
 ·have hc:i < st:=by omega
  have wr:wrapF .i64 ((i:Int)+1)=(i:Int)+1:=wrap64 (by omega) (by omega)
  have ml:=membersW_len ws i
  simp
  refine f78 s (b1.mono le3) (n:=i) (by omega) fun w=>?_
  simp
  refine ap_cases (fun hq=>?_) (fun hq=>?_)
  ·obtain ⟨h4,e1,e2,e3,e4,kp⟩:=orow_push oa w3 [vI i] rfl (by omega) rfl
   have e1':appendA (h3.newCells [.int .i64 (i:Int)]) 1 a (.slice h3.next 0 1 1 1)=some (some (.slice (h3.next+1) 0 ((membersW ws i).length+1) ((membersW ws i).length+1) 1),h4):=e1
   simp [listPut,e1',wr]
   have em:membersW ws (i+1)=membersW ws i++[(i:Int)]:=by rw [membersW_succ,if_pos hq]
   refine hK (i+1,.slice (h3.next+1) 0 ((membersW ws i).length+1) ((membersW ws i).length+1) 1) _ _ (by simp;omega) (by simp) ⟨by simp;omega,e3,⟨by have:=le3.next;omega,fun j x e=>?_⟩,?_,fun j hj=>?_⟩
   ·exact kp j (fun hj=>by have:=ga j hj;have:=w1.lt e;omega) x (le3.get j x e)
   ·rw [em,List.length_append,List.length_singleton,List.map_append];exact e2
   ·simp [blkOf] at hj;have:=le3.next;omega
  ·simp [wr]
   have em:membersW ws (i+1)=membersW ws i:=by rw [membersW_succ,hq];simp
   refine hK (i+1,a) _ _ (by simp;omega) (by simp) ⟨by simp;omega,w3,le3,?_,ga⟩
   simp only [em];exact oa
 ·have:i=st:=by omega
  subst this
  simp
  exact fun w=>H _ a w (le1.trans le3) oa fun j hj=>by have:=ga j hj;simp at this;omega
end Go.Ab.Z
namespace Go.Ab.Z
open Go Go.Ab
variable {h h':AHeap} {k:Post} {fe le en mo:AVal} {A:PAlpha} {X:PAuto}
def K75:KeyT:=⟨75,true,[.int .i64,.int .i64]⟩
def e75 (p:Int×Int):AVal:=.agg [.int .i64 p.1,.int .i64 p.2]
theorem kd75 {ν:Type} (ev:ν->AVal):Kd (Int×Int) ν K75 e75 ev:=⟨fun _=>rfl,rfl,fun a b=>by
 show bi (eqI a.1 b.1) (bi (eqI a.2 b.2) true false) false=_
 rw [Bool.eq_iff_iff]
 simp only [eqI_eq,bi_eq]
 cases a;cases b
 simp⟩
def ByMap (h:AHeap) (mb:Nat) (f:Int×Int->List Int):Prop:=∃ m:List ((Int×Int)×AVal),MapOf K75 e75 id h mb m/\∀ p,match aget m p with | none=>f p=[] | some v=>Row1 h v ((f p).map vI)
theorem ByMap.mono {mb:Nat} {f:Int×Int->List Int} (a:ByMap h mb f) (l:Hle h h'):ByMap h' mb f:=by
 obtain ⟨m,r,q⟩:=a
 refine ⟨m,r.mono l,fun p=>?_⟩
 have:=q p
 cases e:aget m p with
 | none=>rw [e] at this;exact this
 | some v=>rw [e] at this;exact Row1.mono this l
theorem nils_row (h:AHeap):Row1 h .nils []:=⟨by simp,.inl ⟨rfl,rfl⟩⟩
theorem ByMap.look {mb:Nat} {f:Int×Int->List Int} (a:ByMap h mb f) (p:Int×Int):∃ v,∀ h',Hle h h'->lookupA K75 .nils false (.map mb) (e75 p) h'=some v/\Row1 h' v ((f p).map vI):=by
 obtain ⟨m,r,q⟩:=a
 have:=q p
 cases e:aget m p with
 | none =>
  rw [e] at this
  refine ⟨.nils,fun h' l=>?_⟩
  have lk:=(r.mono l).lookup (kd75 id) p .nils false
  rw [e] at lk
  exact ⟨lk,by rw [this];exact nils_row h'⟩
 | some v =>
  rw [e] at this
  refine ⟨v,fun h' l=>?_⟩
  have lk:=(r.mono l).lookup (kd75 id) p .nils false
  rw [e] at lk
  exact ⟨lk,Row1.mono this l⟩
def addW (ts:List Int) (s:List Nat):List Nat:=ts.foldl (fun s t=>putW s t.toNat) s
theorem addW_ok {ts:List Int}:∀ {s:List Nat},SetW s->SetW (addW ts s):=by
 induction ts with
 | nil=>intro s h;exact h
 | cons t ts ih=>intro s h;exact ih (s:=putW s t.toNat) (h.put _)
theorem addW_app (a b:List Int) (s:List Nat):addW (a++b) s=addW b (addW a s):=List.foldl_append
def nextW (f:Int×Int->List Int) (st:Nat) (ws:List Nat) (c:Int):List Nat:=addW ((membersW ws st).flatMap fun n=>f (n,c)) emptyW
theorem keyEqs_uI:∀ a b:List Nat,keyEqs (a.map uI) (b.map uI)=decide (a=b)
 | [],[]=>rfl
 | [],_ :: _=>by show false=_;simp
 | _ :: _,[]=>by show false=_;simp
 | x :: a,y :: b=>by
  show bi (eqI x y) (keyEqs (a.map uI) (b.map uI)) false=_
  rw [keyEqs_uI a b,eqI_eq,bi_eq,Bool.eq_iff_iff]
  by_cases h:x=y
  ·simp [h]
  ·have:¬ (x:Int)=y:=by omega
   simp [h,this]
theorem fits_uI:∀ (n:Nat) (a:List Nat),a.length=n->fitsLeaves (List.replicate n (.int .u64)) (a.map uI)=true
 | 0,[],_=>rfl
 | n+1,x :: a,h=>by
  rw [List.replicate_succ]
  show bi (fitsLeaf (.int .u64) (uI x)) (fitsLeaves (List.replicate n (.int .u64)) (a.map uI)) false=true
  rw [fits_uI n a (by simpa using h)];rfl
 | 0,_ :: _,h=>by simp at h
 | n+1,[],h=>by simp at h
theorem hasPtr_uI:∀ n:Nat,hasPtr (List.replicate n (.int .u64))=false
 | 0=>rfl
 | n+1=>by rw [List.replicate_succ];exact hasPtr_uI n
theorem empty_cells:emptyW.map uI=List.replicate 64 (.int .u64 (0:Int)):=by
 unfold emptyW;rw [List.map_replicate];rfl
theorem neq_sets (h:AHeap) {a:List Nat} (s:SetW a):binA h .neq (.leaves (List.replicate 64 (.int .u64))) (.agg (a.map uI)) (.agg (List.replicate 64 (.int .u64 (0:Int))))=some (.bool (decide (a≠emptyW))):=by
 rw [<-empty_cells]
 show ob (bi (hasPtr (List.replicate 64 (.int .u64))) none (bi (fitsLeaves (List.replicate 64 (.int .u64)) (a.map uI)) (bi (fitsLeaves (List.replicate 64 (.int .u64)) (emptyW.map uI)) (some (keyEqs (a.map uI) (emptyW.map uI))) none) none)) (fun r=>some (AVal.bool (!r)))=_
 rw [hasPtr_uI,fits_uI _ _ s.len,fits_uI _ _ emptyW_ok.len,keyEqs_uI]
 simp
theorem sameL_uI:∀ a:List Nat,sameL (a.map uI) (a.map uI)=true
 | []=>rfl
 | x :: a=>by
  show bi (same1 (uI x) (uI x)) (sameL (a.map uI) (a.map uI)) false=true
  rw [sameL_uI a]
  simp [uI,same1]
theorem sameV_uI (a:List Nat):sameV (.agg (a.map uI)) (.agg (a.map uI))=true:=sameL_uI a
theorem f139 {ws:List Nat} (s:SetW ws) {xb b2 b3 mb st:Nat} {c:Int} {f:Int×Int->List Int} (vx:Blk h xb [.int .i64 (st:Int),en,mo]) (hst:st<=4096) (v2:Blk h b2 [.func 135 [] [.ptr xb 0]]) (v3:Blk h b3 [.map mb]) (fm:ByMap h mb f)
  (hf:∀ p,(f p).length<=100000/\∀ t∈f p,0<=t/\t < 4096)
  (H:∀ h',WF h'->Hle h h'->k (.tup [.agg ((nextW f st ws c).map uI),.bool (decide (nextW f st ws c≠emptyW))]) h'):Cf 139 [.agg (ws.map uI),.int .i64 c,.ptr b2 0,.ptr b3 0] h k:=by
 refine use_code compiled139 fun hw=>?_
 have w1:=hw.newCells (ws.map uI)
 have le1:=Hle.newCells hw (ws.map uI)
 have w2:=w1.newCells (List.replicate 64 (.int .u64 (0:Int)))
 have le2:=Hle.newCells w1 (List.replicate 64 (.int .u64 (0:Int)))
 have w3:=w2.newCells (List.replicate 64 (.int .u64 (0:Int)))
 have le3:=Hle.newCells w2 (List.replicate 64 (.int .u64 (0:Int)))
 have leh:=(le1.trans le2).trans le3
 have r2:=(v2.mono leh).rd1 (i:=0) (c:=.func 135 [] [.ptr xb 0]) rfl
 have r4:=(((Blk.new h (ws.map uI)).mono le2).mono le3).rd (off:=0) (n:=64) (l:=ws.map uI) (by simp [s.len]) (by rw [List.drop_zero,List.take_of_length_le (by simp [s.len])])
 have v6:=(Blk.new (h.newCells (ws.map uI)) (List.replicate 64 (.int .u64 (0:Int)))).mono le3
 have v8:=Blk.new ((h.newCells (ws.map uI)).newCells (List.replicate 64 (.int .u64 (0:Int)))) (List.replicate 64 (.int .u64 (0:Int)))
 simp only [next_newCells] at v6 v8
 simp [fn139,-List.reduceReplicate,r2,r4]
 generalize hg0:((h.newCells (ws.map uI)).newCells (List.replicate 64 (.int .u64 (0:Int)))).newCells (List.replicate 64 (.int .u64 (0:Int)))=g0 at *
 have gn:g0.next=h.next+3:=by rw [<-hg0];simp
 refine f135 s (vx.mono leh) hst fun g1 r wg leg or gr=>?_
 have leg1:=leh.trans leg
 have v6:=v6.mono leg
 have v8:=v8.mono leg
 rw [<-empty_cells] at v8
 have rl:=or.len
 simp [-List.reduceReplicate,rl]
 have msb:(membersW ws st).length<=4096:=Nat.le_trans (membersW_len ws st) hst
 generalize hms:membersW ws st=ms at *
 rw [L139_1]
 refine loop_by (σ:=Nat) (fun i h'=>i<=ms.length/\∃ cur,cur=addW ((ms.take i).flatMap fun n=>f (n,c)) emptyW/\SetW cur/\WF h'/\Hle h h'/\Blk h' (h.next+1+1) (cur.map uI)/\∀ j,j≠h.next+1+1->Kp g1 h' j)
  (fun i=>[(1,.int .i64 c),(3,.ptr b3 0),(6,.ptr (h.next+1) 0),(8,.ptr (h.next+1+1) 0),(15,r),(16,.int .i64 ms.length),(17,.int .i64 i)]) (fun i=>ms.length - i) 0 (by simp) ?_ ?_
 ·exact ⟨Nat.zero_le _,emptyW,by simp [addW],emptyW_ok,wg,leg1,v8,fun j _=>Kp.refl _ _⟩
 clear v8
 rintro i h3 K ⟨hi,cur,hcur,sc,w3',le3',v8,kp⟩ hK
 simp
 refine ap_split (fun hc=>?_) (fun hc=>?_)
 ·have hc:i < ms.length:=by omega
  have or3:ORow h3 1 r ms.length (ms.map vI):=own_kp or fun j hj=>kp j (by have:=gr j hj;omega)
  obtain ⟨p1,p2⟩:=orow_rd (i:=i) or3 hc hc
  have r3:=(v3.mono le3').rd1 (i:=0) (c:=.map mb) rfl
  obtain ⟨v,look⟩:=fm.look (ms[i],c)
  have lk:lookupA ⟨75,true,[.int .i64,.int .i64]⟩ .nils false (.map mb) (.agg [.int .i64 ms[i],.int .i64 c]) h3=some v:=(look h3 le3').1
  have rv:=(look h (Hle.refl h)).2
  have vl:=rv.len
  simp only [List.length_map] at vl
  have wr:wrapF .i64 ((i:Int)+1)=(i:Int)+1:=wrap64 (by omega) (by omega)
  obtain ⟨fl,fb⟩:=hf (ms[i],c)
  simp [p1,p2,r3,listPut,lk,vl]
  rw [L139_2]
  refine loop_by (σ:=Nat) (fun j h'=>j<=(f (ms[i],c)).length/\∃ cur',cur'=addW ((f (ms[i],c)).take j) cur/\SetW cur'/\WF h'/\Hle h h'/\Blk h' (h.next+1+1) (cur'.map uI)/\∀ j,j≠h.next+1+1->Kp g1 h' j)
   (fun j=>[(1,.int .i64 c),(3,.ptr b3 0),(6,.ptr (h.next+1) 0),(8,.ptr (h.next+1+1) 0),(15,r),(16,.int .i64 ms.length),(17,.int .i64 i),(25,v),(26,.int .i64 (f (ms[i],c)).length),(27,.int .i64 j)]) (fun j=>(f (ms[i],c)).length - j) 0 (by simp) ?_ ?_
  ·exact ⟨Nat.zero_le _,cur,by simp [addW],sc,w3',le3',v8,kp⟩
  clear v8 kp or3 p2 r3 lk
  rintro j h4 K2 ⟨hj,cur',hcur',sc',w4,le4,v8,kp⟩ hK2
  simp
  refine ap_split (fun hq=>?_) (fun hq=>?_)
  ·have hq:j < (f (ms[i],c)).length:=by omega
   have x1:=rv.idx (i:=j) (by simpa using hq) .i64
   have x2:=(look h4 le4).2.rd (i:=j) (c:=vI (f (ms[i],c))[j]) (by simp [hq])
   have tb:=fb _ (List.getElem_mem hq)
   obtain ⟨t,ht⟩:=Int.eq_ofNat_of_zero_le tb.1
   rw [ht] at x2 tb
   have wrj:wrapF .i64 ((j:Int)+1)=(j:Int)+1:=wrap64 (by omega) (by omega)
   simp [x1,x2,vI]
   refine f77 v8 sc' (n:=t) (by omega) fun h5 w5 bt v5=>?_
   simp [wrj]
   have le5:=bt.hle le4 hw (by omega)
   refine hK2 (j+1) _ _ (by omega) (by simp) ⟨by omega,putW cur' t,?_,sc'.put t,w5,le5,v5,fun y hy=>Kp.trans (kp y hy) (But.kp bt hy)⟩
   rw [List.take_succ_eq_append_getElem hq,addW_app,<-hcur',ht];rfl
  ·have:j=(f (ms[i],c)).length:=by omega
   subst this
   rw [List.take_length] at hcur'
   simp [wr]
   refine hK (i+1) _ _ (by omega) (by simp) ⟨by omega,cur',?_,sc',w4,le4,v8,kp⟩
   rw [List.take_succ_eq_append_getElem hc,List.flatMap_append,addW_app,<-hcur,hcur']
   simp
 ·have:i=ms.length:=by omega
  subst this
  rw [List.take_length] at hcur
  have hnx:nextW f st ws c=cur:=by unfold nextW;rw [hms,<-hcur]
  have d1:=v8.rd (off:=0) (n:=64) (l:=cur.map uI) (by simp [sc.len]) (by rw [List.drop_zero,List.take_of_length_le (by simp [sc.len])])
  have d2:=neq_sets h3 sc
  have v6':=Blk.kp v6 (kp (h.next+1) (by omega))
  obtain ⟨h4,y1,y2,y3⟩:=v6'.write (off:=0) (vs:=cur.map uI) (by simp [sc.len]) (by rw [allOne_iff];intro x hx;obtain ⟨w,_,rfl⟩:=List.mem_map.1 hx;rfl)
  have d3:=y2.rd (off:=0) (n:=64) (l:=cur.map uI) (by simp [sc.len]) (by rw [List.take_zero,List.nil_append,List.drop_zero,List.take_append_of_le_length (by simp [sc.len]),List.take_of_length_le (by simp [sc.len])])
  have v8':=Blk.kp v8 (But.kp y3 (by omega))
  have d4:=v8'.rd (off:=0) (n:=64) (l:=cur.map uI) (by simp [sc.len]) (by rw [List.drop_zero,List.take_of_length_le (by simp [sc.len])])
  have cl:(cur.map uI).length=64:=by simp [sc.len]
  have sv:=sameV_uI cur
  rw [hnx] at H
  generalize hcs:cur.map uI=cs at *
  have le4:=y3.hle le3' hw (by omega)
  simp [-List.reduceReplicate,d1,d2,cl,y1,d3,d4,sv]
  intro w
  refine kcast (H h4 w le4) ?_
  by_cases hz:cur=emptyW<;>simp [hz]<;>rfl
end Go.Ab.Z
namespace Go.Ab.Z
open Go Go.Ab
structure BS (κ:Type) where
 w:List κ
 R:List (List Int)
 st:Nat
def setRC (R:List (List Int)) (n k:Nat) (x:Int):List (List Int):=R.set n ((R.getD n []).set k x)
section
variable {κ:Type} [DecidableEq κ] (next:κ->Nat->Option κ) (L:Nat)
def addU (n k:Nat) (t:κ) (s:BS κ):BS κ:=if t∈s.w then ⟨s.w,setRC s.R n k (idxK s.w t),s.st+1⟩ else ⟨s.w++[t],setRC (s.R++[List.replicate L (-1)]) n k s.w.length,s.st+1⟩
theorem addU_old {n k:Nat} {t:κ} {s:BS κ} (h:t∈s.w):addU L n k t s=⟨s.w,setRC s.R n k (idxK s.w t),s.st+1⟩:=if_pos h
theorem addU_new {n k:Nat} {t:κ} {s:BS κ} (h:t∉s.w):addU L n k t s=⟨s.w++[t],setRC (s.R++[List.replicate L (-1)]) n k s.w.length,s.st+1⟩:=if_neg h
def stepU (n:Nat) (s:BS κ) (k:Nat):BS κ:=match s.w[n]? with
 | none=>s
 | some c=>match next c k with
  | none=>s
  | some t=>addU L n k t s
def rowU (n:Nat) (ks:List Nat) (s:BS κ):BS κ:=ks.foldl (stepU next L n) s
def capOk (s:BS κ):Bool:=decide (s.st<=16384) && decide (s.w.length<=4096)
def runU:Nat->Nat->BS κ->BS κ
 | 0,_,s=>s
 | F+1,n,s=>if n < s.w.length/\capOk s=true then runU F (n+1) (rowU next L n (List.range L) s) else s
variable {next L}
theorem stepU_mono (n:Nat) (s:BS κ) (k:Nat):s.st<=(stepU next L n s k).st/\s.w.length<=(stepU next L n s k).w.length:=by
 unfold stepU
 split
 ·exact ⟨Nat.le_refl _,Nat.le_refl _⟩
 ·split
  ·exact ⟨Nat.le_refl _,Nat.le_refl _⟩
  ·rename_i t _
   by_cases h:t∈s.w
   ·rw [addU_old L h];simp
   ·rw [addU_new L h];simp
theorem rowU_mono (n:Nat):∀ (ks:List Nat) (s:BS κ),s.st<=(rowU next L n ks s).st/\s.w.length<=(rowU next L n ks s).w.length
 | [],s=>⟨Nat.le_refl _,Nat.le_refl _⟩
 | k :: ks,s=>by
  obtain ⟨a1,a2⟩:=stepU_mono (next:=next) (L:=L) n s k
  obtain ⟨b1,b2⟩:=rowU_mono n ks (stepU next L n s k)
  exact ⟨Nat.le_trans a1 b1,Nat.le_trans a2 b2⟩
theorem runU_stop {s:BS κ} (h:¬ capOk s=true):∀ F n,runU next L F n s=s
 | 0,_=>rfl
 | F+1,n=>by unfold runU;rw [if_neg fun e=>h e.2]
theorem rowU_bad {n:Nat} {ks:List Nat} {s:BS κ} (h:¬ capOk s=true):¬ capOk (rowU next L n ks s)=true:=by
 obtain ⟨a1,a2⟩:=rowU_mono (next:=next) (L:=L) n ks s
 unfold capOk at *
 simp at *
 omega
theorem rowU_snoc (n:Nat) (ks:List Nat) (s:BS κ) (k:Nat):rowU next L n (ks++[k]) s=stepU next L n (rowU next L n ks s) k:=by simp [rowU,List.foldl_append]
theorem rowU_cons (n:Nat) (ks:List Nat) (s:BS κ) (k:Nat):rowU next L n (k :: ks) s=rowU next L n ks (stepU next L n s k):=rfl
end
section
variable {κ κ':Type} [DecidableEq κ] [DecidableEq κ'] {next:κ->Nat->Option κ} {next':κ'->Nat->Option κ'} {L:Nat} (f:κ->κ') (P:κ->Prop)
def BS.map (s:BS κ):BS κ':=⟨s.w.map f,s.R,s.st⟩
theorem idxK_map (hf:∀ a b,P a->P b->f a=f b->a=b):∀ {l:List κ} {c:κ},(∀ x∈l,P x)->P c->idxK (l.map f) (f c)=idxK l c
 | [],c,_,_=>rfl
 | x :: l,c,hl,hc=>by
  have ih:=idxK_map hf (l:=l) (c:=c) (fun y hy=>hl y (by simp [hy])) hc
  unfold idxK at ih ⊢
  simp only [List.map_cons,List.idxOf_cons,ih]
  have:(f x == f c)=(x == c):=by
   rw [Bool.eq_iff_iff];simp only [beq_iff_eq]
   exact ⟨hf x c (hl x (by simp)) hc,fun e=>by rw [e]⟩
  rw [this]
variable {f P}
theorem stepU_map (hf:∀ a b,P a->P b->f a=f b->a=b) (hn:∀ a k,P a->next' (f a) k=(next a k).map f) (hP:∀ a k b,P a->next a k=some b->P b) {s:BS κ} (hs:∀ x∈s.w,P x) (n k:Nat) :
  stepU next' L n (s.map f) k=(stepU next L n s k).map f/\∀ x∈(stepU next L n s k).w,P x:=by
 have hw':(s.map f).w[n]?=(s.w[n]?).map f:=List.getElem?_map ..
 unfold stepU
 rw [hw']
 cases hw:s.w[n]? with
 | none=>exact ⟨rfl,hs⟩
 | some c =>
  have hc:=hs c (List.mem_of_getElem? hw)
  simp only [Option.map_some,hn c k hc]
  cases ht:next c k with
  | none=>exact ⟨rfl,hs⟩
  | some t =>
   have htP:=hP c k t hc ht
   simp only [Option.map_some]
   have mem:f t∈(s.map f).w↔t∈s.w:=by
    show f t∈s.w.map f↔_
    rw [List.mem_map]
    exact ⟨fun ⟨y,hy,e⟩=>hf y t (hs y hy) htP e ▸ hy,fun h=>⟨t,h,rfl⟩⟩
   by_cases hm:t∈s.w
   ·rw [addU_old L hm,addU_old L (mem.2 hm)]
    refine ⟨?_,hs⟩
    show BS.mk _ (setRC s.R n k (idxK (s.w.map f) (f t):Int)) _=_
    rw [idxK_map f P hf hs htP];rfl
   ·rw [addU_new L hm,addU_new L fun h=>hm (mem.1 h)]
    refine ⟨?_,fun x hx=>?_⟩
    ·simp [BS.map]
    ·rcases List.mem_append.1 hx with hx | hx
     ·exact hs x hx
     ·simp at hx;subst hx;exact htP
theorem rowU_map (hf:∀ a b,P a->P b->f a=f b->a=b) (hn:∀ a k,P a->next' (f a) k=(next a k).map f) (hP:∀ a k b,P a->next a k=some b->P b) (n:Nat):∀ (ks:List Nat) {s:BS κ},(∀ x∈s.w,P x) ->
  rowU next' L n ks (s.map f)=(rowU next L n ks s).map f/\∀ x∈(rowU next L n ks s).w,P x
 | [],s,hs=>⟨rfl,hs⟩
 | k :: ks,s,hs=>by
  obtain ⟨e,h⟩:=stepU_map (L:=L) hf hn hP hs n k
  rw [rowU_cons,rowU_cons,e]
  exact rowU_map hf hn hP n ks h
theorem runU_map (hf:∀ a b,P a->P b->f a=f b->a=b) (hn:∀ a k,P a->next' (f a) k=(next a k).map f) (hP:∀ a k b,P a->next a k=some b->P b):∀ (F n:Nat) {s:BS κ},(∀ x∈s.w,P x) ->
  runU next' L F n (s.map f)=(runU next L F n s).map f/\∀ x∈(runU next L F n s).w,P x
 | 0,n,s,hs=>⟨rfl,hs⟩
 | F+1,n,s,hs=>by
  unfold runU
  have e1:(s.map f).w.length=s.w.length:=by simp [BS.map]
  have e2:capOk (s.map f)=capOk s:=by unfold capOk;rw [e1];rfl
  rw [e1,e2]
  split
  ·obtain ⟨e,h⟩:=rowU_map (L:=L) hf hn hP n (List.range L) hs
   rw [e]
   exact runU_map hf hn hP F (n+1) h
  ·exact ⟨rfl,hs⟩
end
end Go.Ab.Z
namespace Go.Ab.Z
open Go Go.Ab
variable {h h':AHeap}
theorem bornE_cons (k:List AVal) (e:AEntry) (es:List AEntry):bornE k (e :: es)=bi (keyEqs k e.key.cells) (some e.born) (bornE k es):=rfl
theorem findE_cons (k:List AVal) (e:AEntry) (es:List AEntry):findE k (e :: es)=bi (keyEqs k e.key.cells) (some e.val) (findE k es):=rfl
theorem putE_cons (k v:AVal) (c:Nat) (e:AEntry) (es:List AEntry):putE k v c (e :: es)=bi (keyEqs k.cells e.key.cells) (⟨k,v,e.born⟩ :: es) (e :: putE k v c es):=rfl
theorem stampE_cons (n:Nat) (v:AVal) (e:AEntry) (es:List AEntry):stampE n v (e :: es)=bi (Nat.beq e.born n) (some (⟨e.key,v,e.born⟩ :: es)) (ob (stampE n v es) fun l=>some (e :: l)):=rfl
theorem born_find {k:List AVal}:∀ {es:List AEntry},bornE k es=none↔findE k es=none
 | []=>⟨fun _=>rfl,fun _=>rfl⟩
 | e :: es=>by
  rw [bornE_cons,findE_cons]
  cases keyEqs k e.key.cells
  ·exact born_find (es:=es)
  ·simp
theorem bornE_mem {k:List AVal} {n:Nat}:∀ {es:List AEntry},bornE k es=some n->n∈es.map (·.born)
 | [],h=>by cases h
 | e :: es,h=>by
  rw [bornE_cons,bi_eq] at h
  split at h
  ·cases h;simp
  ·have:=bornE_mem h;simp at this ⊢;exact .inr this
theorem putE_born {k v:AVal} {c:Nat}:∀ {es:List AEntry},(putE k v c es).map (·.born)=es.map (·.born)++(match bornE k.cells es with | some _=>[] | none=>[c])
 | []=>rfl
 | e :: es=>by
  rw [putE_cons,bornE_cons]
  cases keyEqs k.cells e.key.cells
  ·simp only [bi_false,List.map_cons,putE_born (es:=es),List.cons_append]
  ·simp
theorem stamp_put {k v x:AVal} {c:Nat}:∀ {es:List AEntry},(es.map (·.born)).Nodup->(∀ e∈es,e.born < c)->stampE ((bornE k.cells es).getD c) x (putE k v c es)=some (putE k x c es)
 | [],_,_=>by
  show bi (Nat.beq c c) (some [(⟨k,x,c⟩:AEntry)]) (none:Option (List AEntry))=some [(⟨k,x,c⟩:AEntry)]
  rw [nbeq];simp
 | e :: es,hn,hc=>by
  simp only [List.map_cons,List.nodup_cons] at hn
  rw [putE_cons,putE_cons,bornE_cons]
  cases keyEqs k.cells e.key.cells
  ·simp only [bi_false]
   have ne:e.born≠(bornE k.cells es).getD c:=by
    cases hb:bornE k.cells es with
    | none=>have:=hc e (by simp);simp;omega
    | some n=>have:=bornE_mem hb;simp only [Option.getD_some];intro h;exact hn.1 (h ▸ this)
   rw [stampE_cons,nbeq,decide_eq_false ne,bi_false,stamp_put hn.2 fun y hy=>hc y (by simp [hy])]
   rfl
  ·simp only [bi_true,Option.getD_some]
   rw [stampE_cons,nbeq];simp
section
variable {κ ν:Type} [DecidableEq κ] {K:KeyT} {ek:κ->AVal} {ev:ν->AVal} {b:Nat} {m:List (κ×ν)}
def MapB (K:KeyT) (ek:κ->AVal) (ev:ν->AVal) (h:AHeap) (b:Nat) (m:List (κ×ν)):Prop:=∃ es c,h.get b=some (.map K.kt es c)/\ERs ek ev es m/\(es.map (·.born)).Nodup/\∀ e∈es,e.born < c
theorem MapB.map (v:MapB K ek ev h b m):MapOf K ek ev h b m:=by have _i:=‹DecidableEq κ›;obtain ⟨es,c,e,r,_⟩:=v;exact ⟨es,c,e,r⟩
theorem MapB.kp (v:MapB K ek ev h b m) (k:Kp h h' b):MapB K ek ev h' b m:=by have _i:=‹DecidableEq κ›;obtain ⟨es,c,e,r⟩:=v;exact ⟨es,c,k _ e,r⟩
theorem MapB.new (h:AHeap):MapB K ek ev (h.new (.map K.kt [] 0)) h.next ([]:List (κ×ν)):=have _i:=‹DecidableEq κ›;⟨[],0,by rw [AHeap.get_new,if_pos rfl],rfl,by simp,fun e he=>by cases he⟩
theorem put_ok {k v:AVal} {c:Nat} {es:List AEntry} (hn:(es.map (·.born)).Nodup) (hc:∀ e∈es,e.born < c) :
  ((putE k v c es).map (·.born)).Nodup/\∀ e∈putE k v c es,e.born < (match bornE k.cells es with | some _=>c | none=>c+1):=by
 have e:=putE_born (k:=k) (v:=v) (c:=c) (es:=es)
 have mem:∀ y∈putE k v c es,y.born∈(putE k v c es).map (·.born):=fun y hy=>List.mem_map.2 ⟨y,hy,rfl⟩
 rw [e] at mem ⊢
 have hc':∀ n∈es.map (·.born),n < c:=fun n hn=>by obtain ⟨y,hy,rfl⟩:=List.mem_map.1 hn;exact hc y hy
 cases hb:bornE k.cells es with
 | some n =>
  rw [hb] at mem
  simp only [List.append_nil] at mem ⊢
  exact ⟨hn,fun y hy=>hc' _ (mem y hy)⟩
 | none =>
  rw [hb] at mem
  simp only at mem ⊢
  refine ⟨List.nodup_append.2 ⟨hn,by simp,fun a ha x hx e=>?_⟩,fun y hy=>?_⟩
  ·simp at hx;have:=hc' _ ha;omega
  ·rcases List.mem_append.1 (mem y hy) with h | h
   ·have:=hc' _ h;omega
   ·simp at h;omega
theorem MapB.entry (v:MapB K ek ev h b m) (kd:Kd κ ν K ek ev) (a:κ) (z:ν):∃ (n:Nat) (h2:AHeap),mapEntryA K (ev z) (.map b) (ek a) h=some (some (.tup [ev ((aget m a).getD z),.int .i64 (n:Int)]),h2)/\But b h h2 /\
  ∀ h3,Kp h2 h3 b->∀ x,∃ h4,entryStoreA (.map b) (.int .i64 (n:Int)) (ev x) h3=some (none,h4)/\But b h3 h4/\MapB K ek ev h4 b (aput m a x):=by
 obtain ⟨es,c,e,r,hn,hc⟩:=v
 have hok:keyOk h K.ls (ek a).cells es=true:=by unfold keyOk;rw [kd.ptr,bi_false]
 have hf:=r.find kd a
 have st:∀ (n c':Nat) (u:AVal),n=(bornE (ek a).cells es).getD c->c'=(match bornE (ek a).cells es with | some _=>c | none=>c+1) ->
   ∀ h3,Kp (h.set b (.map K.kt (putE (ek a) u c es) c')) h3 b->∀ x,∃ h4,entryStoreA (.map b) (.int .i64 (n:Int)) (ev x) h3=some (none,h4)/\But b h3 h4/\MapB K ek ev h4 b (aput m a x):=by
  intro n c' u h1 h2 h3 kp x
  have g:=kp _ (by rw [AHeap.get_set,if_pos rfl])
  have so:=stamp_put (k:=ek a) (v:=u) (x:=ev x) hn hc
  rw [<-h1] at so
  obtain ⟨p1,p2⟩:=put_ok (k:=ek a) (v:=ev x) hn hc
  rw [<-h2] at p2
  refine ⟨h3.set b (.map K.kt (putE (ek a) (ev x) c es) c'),?_,⟨rfl,fun j hj=>by rw [AHeap.get_set,if_neg (fun e=>hj e.symm)]⟩,putE (ek a) (ev x) c es,c',by rw [AHeap.get_set,if_pos rfl],r.put kd a x c,p1,p2⟩
  show ob (h3.get b) (fun y=>onEntries y fun kt es clock=>ob (stampE n (ev x) es) fun l=>some (none,h3.set b (.map kt l clock)))=_
  rw [g,ob_some,onEntries_c,so];rfl
 have eq:mapEntryA K (ev z) (.map b) (ek a) h=oe (findE (ek a).cells es) (ret (h.set b (.map K.kt (putE (ek a) (ev z) c es) (c+1))) (.tup [ev z,.int .i64 (Int.ofNat c)]))
   fun v=>ob (bornE (ek a).cells es) fun n=>ret (h.set b (.map K.kt (putE (ek a) v c es) c)) (.tup [v,.int .i64 (Int.ofNat n)]):=by
  unfold mapEntryA
  rw [kd.fit,bi_true]
  simp only [onMap_c,e,ob_some,onEntries_c,nbeq,decide_true,Bool.true_and]
  rw [hok,bi_true]
 rw [eq]
 cases hb:bornE (ek a).cells es with
 | none =>
  have hf2:=born_find.1 hb
  rw [hf2] at hf ⊢
  have hg:aget m a=none:=by cases hg:aget m a with
   | none=>rfl
   | some u=>rw [hg] at hf;cases hf
  rw [hg]
  exact ⟨c,_,rfl,⟨rfl,fun j hj=>by rw [AHeap.get_set,if_neg (fun e=>hj e.symm)]⟩,st c (c+1) (ev z) (by rw [hb];rfl) (by rw [hb])⟩
 | some n =>
  cases hf2:findE (ek a).cells es with
  | none=>rw [born_find.2 hf2] at hb;cases hb
  | some u =>
   rw [hf2] at hf
   cases hg:aget m a with
   | none=>rw [hg] at hf;cases hf
   | some w =>
    rw [hg] at hf
    simp only [Option.map_some,Option.some.injEq] at hf
    subst hf
    exact ⟨n,_,rfl,⟨rfl,fun j hj=>by rw [AHeap.get_set,if_neg (fun e=>hj e.symm)]⟩,st n c (ev w) (by rw [hb];rfl) (by rw [hb])⟩
end
end Go.Ab.Z
namespace Go.Ab.Z
open Go Go.Ab
variable {h h':AHeap}
def pushF (f:Int×Int->List Int) (p:Int×Int) (x:Int):Int×Int->List Int:=fun q=>if q=p then f p++[x] else f q
structure MemY (h₀ h:AHeap) (mb:Nat) (m:List ((Int×Int)×AVal)) (f:Int×Int->List Int):Prop where
 wf:WF h
 hle:Hle h₀ h
 map:MapB K75 e75 id h mb m
 rows:∀ p v,aget m p=some v->ORow h 1 v (f p).length ((f p).map vI)
 none:∀ p,aget m p=none->f p=[]
 fresh:∀ p v,aget m p=some v->∀ j∈blkOf v,h₀.next<=j/\j≠mb
 inj:∀ p q v u,aget m p=some v->aget m q=some u->p≠q->∀ j∈blkOf v,j∉blkOf u
 gm:h₀.next<=mb
theorem MemY.mono {h₀:AHeap} {mb:Nat} {m:List ((Int×Int)×AVal)} {f:Int×Int->List Int} (M:MemY h₀ h mb m f) (w:WF h') (l:Hle h h'):MemY h₀ h' mb m f :=
 ⟨w,M.hle.trans l,M.map.kp (l.get mb),fun p v e=>(M.rows p v e).mono l,M.none,M.fresh,M.inj,M.gm⟩
theorem MemY.by {h₀:AHeap} {mb:Nat} {m:List ((Int×Int)×AVal)} {f:Int×Int->List Int} (M:MemY h₀ h mb m f):ByMap h mb f:=by
 refine ⟨m,M.map.map,fun p=>?_⟩
 cases e:aget m p with
 | none=>exact M.none p e
 | some v=>exact (M.rows p v e).row1
theorem MemY.push {h₀:AHeap} {mb:Nat} {m:List ((Int×Int)×AVal)} {f:Int×Int->List Int} (M:MemY h₀ h mb m f) (w₀:WF h₀) (p:Int×Int) (x:Int) (hn:(f p).length < 1048576) :
  ∃ (n:Nat) (h2 h3 h4:AHeap) (v:AVal) (m':List ((Int×Int)×AVal)),mapEntryA K75 .nils (.map mb) (e75 p) (h.newCells [.int .i64 x])=some (some (.tup [v,.int .i64 (n:Int)]),h2) /\
   appendA h2 1 v (.slice h.next 0 1 1 1)=some (some (.slice (h.next+1) 0 ((f p).length+1) ((f p).length+1) 1),h3) /\
   entryStoreA (.map mb) (.int .i64 (n:Int)) (.slice (h.next+1) 0 ((f p).length+1) ((f p).length+1) 1) h3=some (Option.none,h4)/\MemY h₀ h4 mb m' (pushF f p x) /\
   (∀ j,j < h.next->j≠mb->(∀ q u,aget m q=some u->j∉blkOf u)->Kp h h4 j/\∀ q u,aget m' q=some u->j∉blkOf u)/\h.next<=h4.next:=by
 have w1:=M.wf.newCells [vI x]
 have le1:=Hle.newCells M.wf [vI x]
 have mlt:=M.map.map.lt M.wf
 have hge:=M.hle.next
 have M1:=M.mono w1 le1
 obtain ⟨n,h2,a1,a2,a3⟩:=M1.map.entry (kd75 id) p .nils
 have w2:WF h2:=a2.wf w1 (by simp;omega)
 have hvm:∀ j,(∀ q u,aget m q=some u->j∉blkOf u)->j∉blkOf ((aget m p).getD .nils):=by
  intro j hj
  cases e:aget m p with
  | none=>intro h;cases h
  | some v=>exact hj p v e
 have ov:ORow (h.newCells [vI x]) 1 ((aget m p).getD .nils) (f p).length ((f p).map vI)/\(∀ j∈blkOf ((aget m p).getD .nils),h₀.next<=j/\j≠mb/\j < h.next)/\∀ q u,aget m q=some u->q≠p->∀ j∈blkOf u,j∉blkOf ((aget m p).getD .nils):=by
  cases e:aget m p with
  | none =>
   rw [M.none p e]
   exact ⟨ORow.nil _ _,fun j hj=>(by cases hj),fun q u _ _ j _ hj=>(by cases hj)⟩
  | some v =>
   refine ⟨M1.rows p v e,fun j hj=>?_,fun q u hu hq j hj=>M.inj q p u v hu e hq j hj⟩
   obtain ⟨f1,f2⟩:=M.fresh p v e j hj
   exact ⟨f1,f2,own_lt (M.rows p v e) M.wf j hj⟩
 obtain ⟨o1,o2,o3⟩:=ov
 generalize (aget m p).getD .nils=v at *
 have kp2:∀ j,j≠mb->Kp (h.newCells [vI x]) h2 j:=fun j hj=>But.kp a2 hj
 have ov2:ORow h2 1 v (f p).length ((f p).map vI):=own_kp o1 fun j hj=>kp2 j (o2 j hj).2.1
 have fr2:ORow h2 1 (.slice h.next 0 1 1 1) 1 [vI x]:=own_kp (ORow.fresh h (sz:=1) (n:=1) (cs:=[vI x]) rfl) fun j hj=>kp2 j (by simp [blkOf] at hj;omega)
 have nx2:h2.next=h.next+1:=by rw [a2.next];simp
 obtain ⟨h3,b1,b2,b3,b4⟩:=ov2.append w2 fr2.more rfl (by omega) (by omega) rfl
 rw [nx2] at b1 b2
 have kp3:∀ j,j∉blkOf v->Kp h2 h3 j:=fun j hj=>grown_kp b4 w2 (orow_kinds ov2) hj
 obtain ⟨h4,c1,c2,c3⟩:=a3 h3 (kp3 mb fun hj=>(o2 mb hj).2.1 rfl) (.slice (h.next+1) 0 ((f p).length+1) ((f p).length+1) 1)
 have nx3:h3.next=h.next+2:=by rw [b4.next,nx2]
 have kp4:∀ j,j≠mb->j∉blkOf v->Kp (h.newCells [vI x]) h4 j:=fun j h1 h2=>Kp.trans (kp2 j h1) (Kp.trans (kp3 j h2) (But.kp c2 h1))
 refine ⟨n,h2,h3,h4,v,aput m p (.slice (h.next+1) 0 ((f p).length+1) ((f p).length+1) 1),a1,b1,c1,?_,fun j hjl hjm hjo=>⟨Kp.trans (Hle.kp le1 j) (kp4 j hjm (hvm j hjo)),fun q u hu=>?_⟩,by have:=c2.next;omega⟩
 rotate_left
 ·rw [aget_aput] at hu
  split at hu
  ·cases hu;simp [blkOf];omega
  ·exact hjo q u hu
 refine ⟨c2.wf b3 (by omega),⟨by rw [c2.next];omega,fun j y e=>?_⟩,c3,fun q u hu=>?_,fun q hq=>?_,fun q u hu j hj=>?_,fun q r u t hu ht hqr j hj hj'=>?_,M.gm⟩
 ·refine kp4 j (fun e2=>?_) (fun hj=>?_) y (le1.get j y (M.hle.get j y e))
  ·have:=w₀.lt e;have:=M.gm;omega
  ·have:=(o2 j hj).1;have:=w₀.lt e;omega
 ·rw [aget_aput] at hu
  unfold pushF
  by_cases hq:q=p
  ·subst hq
   rw [if_pos rfl] at hu
   cases hu
   rw [if_pos rfl,List.length_append,List.length_singleton,List.map_append]
   exact own_kp b2 fun j hj=>But.kp c2 (by simp [blkOf] at hj;omega)
  ·rw [if_neg hq] at hu ⊢
   exact own_kp (M1.rows q u hu) fun j hj=>kp4 j (M.fresh q u hu j hj).2 (o3 q u hu hq j hj)
 ·rw [aget_aput] at hq
  unfold pushF
  by_cases hqp:q=p
  ·rw [if_pos hqp] at hq;cases hq
  ·rw [if_neg hqp] at hq ⊢;exact M.none q hq
 ·rw [aget_aput] at hu
  by_cases hqp:q=p
  ·rw [if_pos hqp] at hu;cases hu
   simp [blkOf] at hj;subst hj
   exact ⟨by omega,by omega⟩
  ·rw [if_neg hqp] at hu;exact M.fresh q u hu j hj
 ·rw [aget_aput] at hu ht
  by_cases hqp:q=p
  ·rw [if_pos hqp] at hu;cases hu
   have hrp:¬ r=p:=fun e=>hqr (by rw [hqp,e])
   rw [if_neg hrp] at ht
   simp [blkOf] at hj;subst hj
   have:=own_lt (M.rows r t ht) M.wf _ hj';omega
  ·rw [if_neg hqp] at hu
   by_cases hrp:r=p
   ·rw [if_pos hrp] at ht;cases ht
    simp [blkOf] at hj';subst hj'
    have:=own_lt (M.rows q u hu) M.wf _ hj;omega
   ·rw [if_neg hrp] at ht
    exact M.inj q r u t hu ht hqr j hj hj'
end Go.Ab.Z
namespace Go.Ab.Z
open Go Go.Ab
variable {h h':AHeap} {k:Post} {fe le en mo:AVal} {R:List (List Int)} {E:List Bool}
theorem setRC_length (R:List (List Int)) (n k:Nat) (x:Int):(setRC R n k x).length=R.length:=by simp [setRC]
theorem MachR.put {m L:Nat} {tv ev:AVal} {rb:List Nat} (M:MachR h m fe le L R E tv ev rb) (w:WF h) {n c:Nat} (hn:n < R.length) (hc:c < L) (x:Int) :
  ∃ (b:Nat) (h2:AHeap),indexAddrS 1 tv (.int .i64 (n:Int))=some (.ptr (rowB tv) n)/\h.read1 (rowB tv) n=some (rowS L b)/\indexAddrS 1 (rowS L b) (.int .i64 (c:Int))=some (.ptr b c)/\h.write b c [.int .i64 x]=some h2/\But b h h2 /\
   b∈m :: (blkOf tv++(blkOf ev++rb))/\b < h.next/\MachR h2 m fe le L (setRC R n c x) E tv ev rb:=by
 have hn':n < rb.length:=by rw [M.nr];exact hn
 obtain ⟨vb,vl⟩:=M.rows n rb[n] R[n] (by simp [hn']) (by simp [hn])
 have i1:=M.to.idx hn .i64
 rw [Nat.mul_one] at i1
 obtain ⟨rest,tr⟩:=M.to.blk (by omega)
 have r1:=tr.rd1 (i:=n) (c:=rowS L rb[n]) (by rw [List.getElem?_append_left (by simpa using hn')];simp [hn'])
 obtain ⟨h2,a1,a2,a3⟩:=vb.write1 (i:=c) (c:=vI x) (by simp only [List.length_map];omega) rfl
 have hmem:rb[n]∈rb:=List.getElem_mem hn'
 have nd:=M.nd
 have nb1:rb[n]≠m:=fun e=>(List.nodup_cons.1 nd).1 (by rw [<-e];simp [hmem])
 have nd1:=List.nodup_append.1 (List.nodup_cons.1 nd).2
 have nb2:∀ j∈blkOf tv,j≠rb[n]:=fun j hj=>nd1.2.2 j hj rb[n] (by simp [hmem])
 have nd2:=List.nodup_append.1 nd1.2.1
 have nb3:∀ j∈blkOf ev,j≠rb[n]:=fun j hj=>nd2.2.2 j hj rb[n] hmem
 have gd:R.getD n []=R[n]:=by rw [List.getD_eq_getElem?_getD,List.getElem?_eq_getElem hn];rfl
 refine ⟨rb[n],h2,i1,r1,?_,a1,a3,by simp [hmem],vb.lt w,?_⟩
 ·simp [rowS,indexAddrS,Nat.succ_le_iff,hc]
 ·refine ⟨Blk.kp M.box (But.kp a3 fun e=>nb1 e.symm),by rw [setRC_length];exact own_kp M.to fun j hj=>But.kp a3 (nb2 j hj),own_kp M.en fun j hj=>But.kp a3 (nb3 j hj),by rw [setRC_length];exact M.nr,by rw [setRC_length];exact M.ne,fun i b r h1 h3=>?_,M.nd⟩
  unfold setRC at h3
  rw [gd] at h3
  by_cases e:i=n
  ·subst e
   rw [List.getElem?_set_self hn] at h3
   rw [List.getElem?_eq_getElem hn'] at h1
   cases h1;cases h3
   exact ⟨by rw [List.map_set];exact a2,by simp [vl]⟩
  ·rw [List.getElem?_set_ne (fun h=>e h.symm)] at h3
   obtain ⟨q1,q2⟩:=M.rows i b r h1 h3
   refine ⟨Blk.kp q1 (But.kp a3 fun eb=>?_),q2⟩
   have hi:=(List.getElem?_eq_some_iff.1 h1).1
   have e2:rb[i]=b:=by rw [List.getElem?_eq_getElem hi] at h1;exact Option.some.inj h1
   exact e ((List.getElem_inj nd2.2.1).1 (e2.trans eb))
abbrev Kw:Type:={ ws:List Nat // SetW ws }
def K132:KeyT:=⟨132,true,List.replicate 64 (.int .u64)⟩
def eW (s:Kw):AVal:=.agg (s.1.map uI)
theorem kd132:Kd Kw Int K132 eW vI:=⟨fun a=>by
 show bi (true == true) (fitsLeaves (List.replicate 64 (.int .u64)) (a.1.map uI)) false=true
 rw [fits_uI 64 a.1 a.2.len];rfl,hasPtr_uI 64,fun a b=>by
 show keyEqs (a.1.map uI) (b.1.map uI)=_
 rw [keyEqs_uI,Bool.eq_iff_iff];simp [Subtype.ext_iff]⟩
def nextK (f:Int×Int->List Int) (st:Nat) (s:Kw) (c:Nat):Option Kw:=if nextW f st s.1 (c:Int)=emptyW then none else some ⟨nextW f st s.1 (c:Int),addW_ok emptyW_ok⟩
end Go.Ab.Z
namespace Go.Ab.Z
open Go Go.Ab
variable {h h':AHeap} {fe le:AVal} {R:List (List Int)} {E:List Bool}
def cellsW (w:List Kw):List AVal:=(w.map fun s=>s.1.map uI).flatten
structure MemD (h₀ h:AHeap) (fe le:AVal) (L m mb:Nat) (wv:AVal) (own:List Nat) (w:List Kw) (mp:List (Kw×Int)) (R:List (List Int)) (E:List Bool):Prop where
 wf:WF h
 hle:Hle h₀ h
 map:MapOf K132 eW vI h mb mp
 work:ORow h 64 wv w.length (cellsW w)
 mach:Mach h m fe le L R E own
 gm:h₀.next<=mb/\mb∉own
 gw:∀ j∈blkOf wv,h₀.next<=j/\j≠mb/\j∉own
 go:∀ j∈own,h₀.next<=j
section
variable {h₀:AHeap} {L m mb:Nat} {wv:AVal} {own:List Nat} {w:List Kw} {mp:List (Kw×Int)}
theorem MemD.mono (M:MemD h₀ h fe le L m mb wv own w mp R E) (w':WF h') (l:Hle h h'):MemD h₀ h' fe le L m mb wv own w mp R E :=
 ⟨w',M.hle.trans l,M.map.mono l,M.work.mono l,M.mach.mono l,M.gm,M.gw,M.go⟩
theorem MemD.upd (M:MemD h₀ h fe le L m mb wv own w mp R E) (w₀:WF h₀) (a:Kw) (x:Int) :
  ∃ h2,updateA K132 (.map mb) (eW a) (.int .i64 x) h=some (none,h2)/\MemD h₀ h2 fe le L m mb wv own w (aput mp a x) R E/\But mb h h2:=by
 obtain ⟨h2,a1,a2,a3⟩:=M.map.update kd132 a x
 exact ⟨h2,a1,⟨a3.wf M.wf (M.map.lt M.wf),a3.hle M.hle w₀ M.gm.1,a2,own_kp M.work fun j hj=>But.kp a3 (M.gw j hj).2.1,M.mach.kp fun j hj=>But.kp a3 fun e=>M.gm.2 (e ▸ hj),M.gm,M.gw,M.go⟩,a3⟩
theorem MemD.pushW (M:MemD h₀ h fe le L m mb wv own w mp R E) (w₀:WF h₀) (a:Kw) (hn:w.length < 1048576) :
  ∃ h2,appendA (h.newCells (a.1.map uI)) 64 wv (.slice h.next 0 1 1 64)=some (some (.slice (h.next+1) 0 (w.length+1) (w.length+1) 64),h2)/\MemD h₀ h2 fe le L m mb (.slice (h.next+1) 0 (w.length+1) (w.length+1) 64) own (w++[a]) mp R E:=by
 obtain ⟨h2,a1,a2,a3,a4,kp⟩:=orow_push M.work M.wf (a.1.map uI) (by simp [a.2.len]) (by omega) (by rw [allOne_iff];intro x hx;obtain ⟨w,_,rfl⟩:=List.mem_map.1 hx;rfl)
 have hge:=M.hle.next
 have l1:=M.map.lt M.wf
 have l2:=M.mach.lt M.wf
 refine ⟨h2,a1,a3,⟨by omega,fun j x e=>kp j (fun hj=>?_) x (M.hle.get j x e)⟩,MapOf.kp' M.map (kp _ fun hj=>(M.gw _ hj).2.1 rfl),?_,M.mach.kp fun j hj=>kp j fun hj'=>(M.gw j hj').2.2 hj,M.gm,fun j hj=>?_,M.go⟩
 ·have:=(M.gw j hj).1;have:=w₀.lt e;omega
 ·rw [List.length_append,List.length_singleton,cellsW,List.map_append,List.flatten_append]
  have:(List.map (fun s:Kw=>s.1.map uI) [a]).flatten=a.1.map uI:=by simp
  rw [this];exact a2
 ·simp [blkOf] at hj;subst hj
  exact ⟨by omega,by omega,fun hj=>by have:=l2 _ hj;omega⟩
theorem MemD.add (M:MemD h₀ h fe le L m mb wv own w mp R E) (w₀:WF h₀) {own':List Nat} {R':List (List Int)} {E':List Bool} (w':WF h') (N:Mach h' m fe le L R' E' own') (ho:∀ j∈own',j∈own\/h.next<=j) (x:Hx own h h'):MemD h₀ h' fe le L m mb wv own' w mp R' E':=by
 have hge:=M.hle.next
 have l1:=M.map.lt M.wf
 refine ⟨w',⟨Nat.le_trans hge x.next,fun j y e=>x.get j (fun hj=>?_) y (M.hle.get j y e)⟩,MapOf.kp' M.map (x.get _ M.gm.2),own_kp M.work fun j hj=>x.get j (M.gw j hj).2.2,N,⟨M.gm.1,fun hj=>?_⟩,fun j hj=>⟨(M.gw j hj).1,(M.gw j hj).2.1,fun hj'=>?_⟩,fun j hj=>?_⟩
 ·have:=M.go j hj;have:=w₀.lt e;omega
 ·rcases ho _ hj with h1 | h1
  ·exact M.gm.2 h1
  ·omega
 ·rcases ho _ hj' with h1 | h1
  ·exact (M.gw j hj).2.2 h1
  ·have:=own_lt M.work M.wf j hj;omega
 ·rcases ho _ hj with h1 | h1
  ·exact M.go j h1
  ·omega
theorem MemD.put (M:MemD h₀ h fe le L m mb wv own w mp R E) (w₀:WF h₀) {n c:Nat} (hn:n < R.length) (hc:c < L) (x:Int) :
  ∃ (tv:AVal) (b:Nat) (h2:AHeap),h.read1 m 2=some tv/\indexAddrS 1 tv (.int .i64 (n:Int))=some (.ptr (rowB tv) n)/\h.read1 (rowB tv) n=some (rowS L b)/\indexAddrS 1 (rowS L b) (.int .i64 (c:Int))=some (.ptr b c)/\h.write b c [.int .i64 x]=some h2 /\
   MemD h₀ h2 fe le L m mb wv own w mp (setRC R n c x) E:=by
 obtain ⟨tv,ev,rb,eo,N⟩:=M.mach
 obtain ⟨b,h2,i1,i2,i3,i4,bt,bo,bl,N2⟩:=N.put M.wf hn hc x
 rw [<-eo] at bo
 exact ⟨tv,b,h2,N.box.rd1 (i:=2) (c:=tv) rfl,i1,i2,i3,i4,bt.wf M.wf bl,bt.hle M.hle w₀ (M.go b bo),MapOf.kp' M.map (But.kp bt fun e=>M.gm.2 (e ▸ bo)),own_kp M.work fun j hj=>But.kp bt fun e=>(M.gw j hj).2.2 (e ▸ bo),⟨tv,ev,rb,eo,N2⟩,M.gm,M.gw,M.go⟩
theorem MemD.at (M:MemD h₀ h fe le L m mb wv own w mp R E) {n:Nat} (hn:n < w.length):indexAddrS 64 wv (.int .i64 (n:Int))=some (.ptr (rowB wv) (n*64))/\h.read (rowB wv) (n*64) 64=some (w[n].1.map uI):=by
 have r:Row h 64 wv (w.map fun s=>s.1.map uI):=M.work.row (by intro l hl;obtain ⟨s,_,rfl⟩:=List.mem_map.1 hl;simp [s.2.len]) (by simp) rfl
 have i1:=M.work.idx hn .i64
 have rd:=r.rd (i:=n) (l:=w[n].1.map uI) (by simp [hn])
 have ro:rowO wv=0:=by
  obtain ⟨_,⟨rfl,_⟩ | ⟨b,cap,rest,rfl,_⟩⟩:=M.work<;>rfl
 rw [ro,Nat.zero_add] at rd
 exact ⟨i1,rd⟩
end
end Go.Ab.Z
namespace Go.Ab.Z
open Go Go.Ab
variable {h h':AHeap} {k:Post} {fe le en mo:AVal} {A:PAlpha}
def begU {κ:Type} (L:Nat) (s:κ):BS κ:=⟨[s],[List.replicate L (-1)],0⟩
def finK (ends:List Int) (s:Kw):Bool:=ends.any fun x=>hasW s.1 x.toNat
theorem allOne_uI (a:List Nat):allOne (a.map uI)=true:=by rw [allOne_iff];intro x hx;obtain ⟨w,_,rfl⟩:=List.mem_map.1 hx;rfl
theorem set_rd {b:Nat} {ws:List Nat} (v:Blk h b (ws.map uI)) (s:SetW ws):h.read b 0 64=some (ws.map uI):=v.rd (off:=0) (n:=64) (l:=ws.map uI) (by simp [s.len]) (by rw [List.drop_zero,List.take_of_length_le (by simp [s.len])])
theorem listPut_all:∀ {z cs:List AVal},z.length=cs.length->listPut z 0 cs=cs
 | [],[],_=>rfl
 | [],_ :: _,h=>by simp at h
 | _ :: _,[],h=>by simp at h
 | z :: zs,c :: cs,h=>by
  show c :: listPut zs 0 cs=c :: cs
  rw [listPut_all (by simpa using h)]
theorem MemD.but {R:List (List Int)} {E:List Bool} {b:Nat} {h₀:AHeap} {L m mb:Nat} {wv:AVal} {own:List Nat} {w:List Kw} {mp:List (Kw×Int)} (M:MemD h₀ h fe le L m mb wv own w mp R E) (w₀:WF h₀) (bt:But b h h') (hb:b < h.next) (h0:h₀.next<=b) (h1:b≠mb) (h2:b∉blkOf wv) (h3:b∉own):MemD h₀ h' fe le L m mb wv own w mp R E :=
 ⟨bt.wf M.wf hb,bt.hle M.hle w₀ h0,MapOf.kp' M.map (But.kp bt h1.symm),own_kp M.work fun j hj=>But.kp bt fun e=>h2 (e ▸ hj),M.mach.kp fun j hj=>But.kp bt fun e=>h3 (e ▸ hj),M.gm,M.gw,M.go⟩
theorem mach_new (hw:WF h) (fe le:AVal) (L:Nat):Mach (h.newCells [fe,le,.nils,.nils]) h.next fe le L [] [] [h.next]:=by
 refine ⟨.nils,.nils,[],rfl,Blk.new h _,ORow.nil _ _,ORow.nil _ _,rfl,rfl,fun i b r h1 _=>by simp at h1,by simp [blkOf]⟩
theorem run_bad {κ:Type} [DecidableEq κ] {next:κ->Nat->Option κ} {L n c F:Nat} {s:BS κ} (hn:n < s.w.length) (hc:c < L) (ok:capOk s=true) (h:¬ capOk (rowU next L n (List.range (c+1)) s)=true):¬ capOk (runU next L (F+1) n s)=true:=by
 unfold runU
 rw [if_pos ⟨hn,ok⟩]
 have e:List.range L=List.range (c+1)++(List.range L).drop (c+1):=by
  have:=(List.take_append_drop (c+1) (List.range L)).symm
  rwa [List.take_range,Nat.min_eq_left (by omega)] at this
 have e2:rowU next L n (List.range L) s=rowU next L n ((List.range L).drop (c+1)) (rowU next L n (List.range (c+1)) s):=by
  rw [e]
  unfold rowU
  rw [List.foldl_append]
  congr 1
  rw [<-e]
 have hb:=rowU_bad (next:=next) (L:=L) (n:=n) (ks:=(List.range L).drop (c+1)) h
 rw [<-e2] at hb
 rw [runU_stop hb]
 exact hb
theorem f138 {xb b2 b3 mf st:Nat} {f:Int×Int->List Int} {ends:List Int} (hA:IsAlpha h fe le A) (hL1:1<=A.letters.length) (hL:A.letters.length<=128) (vx:Blk h xb [.int .i64 (st:Int),en,mo]) (hst:st<=4096)
  (v2:Blk h b2 [.func 135 [] [.ptr xb 0]]) (v3:Blk h b3 [.map mf]) (fm:ByMap h mf f) (hf:∀ p,(f p).length<=100000/\∀ t∈f p,0<=t/\t < 4096)
  (hen:Row1 h en (ends.map vI)) (hel:ends.length<=1048577) (heb:∀ x∈ends,0<=x/\x < 4096) (s0:Kw)
  (H1:capOk (runU (nextK f st) A.letters.length 4098 0 (begU A.letters.length s0))=true->∀ h' m own,WF h'->Hle h h' ->
   Mach h' m fe le A.letters.length (runU (nextK f st) A.letters.length 4098 0 (begU A.letters.length s0)).R ((runU (nextK f st) A.letters.length 4098 0 (begU A.letters.length s0)).w.map (finK ends)) own->(∀ j∈own,h.next<=j)->k (.tup [.ptr m 0,.bool true]) h')
  (H0:¬ capOk (runU (nextK f st) A.letters.length 4098 0 (begU A.letters.length s0))=true->∀ h',WF h'->Hle h h'->k (.tup [.nilp,.bool false]) h') :
  Cf 138 [.agg [fe,le],eW s0,.func 136 [] [.ptr xb 0],.func 139 [] [.ptr b2 0,.ptr b3 0]] h k:=by
 refine use_code compiled138 fun hw=>?_
 have w1:=hw.newCells [fe,le]
 have le1:=Hle.newCells hw [fe,le]
 have w2:=w1.newCells (s0.1.map uI)
 have le2:=Hle.newCells w1 (s0.1.map uI)
 have leh:=le1.trans le2
 have v4:=(Blk.new h [fe,le]).mono le2
 have v5:=Blk.new (h.newCells [fe,le]) (s0.1.map uI)
 have rd4:=v4.rd (off:=0) (n:=2) (l:=[fe,le]) (by simp) rfl
 simp only [next_newCells] at v5
 simp [fn138,eW,-List.reduceReplicate,rd4]
 generalize hg0:(h.newCells [fe,le]).newCells (s0.1.map uI)=g0 at *
 have gn:g0.next=h.next+2:=by rw [<-hg0];simp
 have w3:=w2.newCells [fe,le,.nils,.nils]
 have le3:=Hle.newCells w2 [fe,le,.nils,.nils]
 have M0:=mach_new w2 fe le A.letters.length
 rw [gn] at M0
 have rd5:=set_rd v5 s0.2
 have rd5':=set_rd (v5.mono le3) s0.2
 simp [listPut,rd5,rd5',-List.reduceReplicate]
 refine f136 s0.2 (vx.mono (leh.trans le3)) (hen.mono (leh.trans le3)) hel heb fun g1 wg1 leg1=>?_
 have rd6:=set_rd ((v5.mono le3).mono leg1) s0.2
 have sv:=sameV_uI s0.1
 simp [rd6,sv,-List.reduceReplicate]
 refine f71 (M0.mono leg1) (hA.mono ((leh.trans le3).trans leg1)) rfl hL1 hL (by simp) _ fun g2 own wg2 N ho hx=>?_
 have rd7:=set_rd (Blk.kp ((v5.mono le3).mono leg1) (hx.get _ (by simp))) s0.2
 have w4:=wg2.new (.map 132 [] 0)
 have le4:=Hle.new wg2 (.map 132 [] 0)
 have rd8:=set_rd (Blk.mono (Blk.kp ((v5.mono le3).mono leg1) (hx.get _ (by simp))) le4) s0.2
 obtain ⟨h3,u1,u2,u3⟩:=(MapOf.new (K:=K132) (ek:=eW) (ev:=vI) g2).update kd132 s0 0
 have u1:updateA ⟨132,true,List.replicate 64 (.int .u64)⟩ (.map g2.next) (.agg (s0.1.map uI)) (.int .i64 0) (g2.new (.map 132 [] 0))=some (none,h3):=u1
 have rd9:=set_rd (Blk.kp (Blk.mono (Blk.kp ((v5.mono le3).mono leg1) (hx.get _ (by simp))) le4) (But.kp u3 (by have:=hx.next;have:=leg1.next;simp at this;omega))) s0.2
 have lp:listPut (List.replicate 64 (.int .u64 (0:Int))) 0 (s0.1.map uI)=s0.1.map uI:=listPut_all (by simp [s0.2.len])
 have sl:=s0.2.len
 simp [rd7,rd8,rd9,u1,sv,lp,sl,-List.reduceReplicate]
 have g21:=hx.next
 have g10:=leg1.next
 simp only [next_newCells] at g10
 have nx3:h3.next=g2.next+1:=by rw [u3.next];simp
 have hle2:Hle g0 g2:=⟨by omega,fun j x e=>hx.get j (fun hj=>by simp at hj;have:=w2.lt e;omega) x (leg1.get j x (le3.get j x e))⟩
 have hle3:Hle g0 h3:=u3.hle (hle2.trans le4) w2 (by omega)
 have w5:=u3.wf w4 (by simp)
 have own_lt2:=N.lt wg2
 have own_ge:∀ j∈own,g0.next<=j:=fun j hj=>by
  rcases ho j hj with h1 | h1
  ·simp at h1;omega
  ·omega
 have C0:MemD g0 (h3.newCells (s0.1.map uI)) fe le A.letters.length (h.next+2) g2.next (.slice h3.next 0 1 1 64) own [s0] [(s0,0)] (begU A.letters.length s0).R ([s0].map (finK ends)):=by
  have le6:=Hle.newCells w5 (s0.1.map uI)
  refine ⟨w5.newCells _,hle3.trans le6,u2.mono le6,?_,?_,⟨by omega,fun hj=>by have:=own_lt2 _ hj;omega⟩,fun j hj=>?_,own_ge⟩
  ·have:=ORow.fresh h3 (sz:=64) (n:=1) (cs:=s0.1.map uI) (by simp [s0.2.len])
   simpa [cellsW] using this
  ·exact ((N.mono le4).kp fun j hj=>But.kp u3 (by have:=own_lt2 j hj;omega)).mono le6
  ·simp [blkOf] at hj;subst hj
   exact ⟨by omega,by omega,fun hj=>by have:=own_lt2 _ hj;omega⟩
 have fel:∀ h',Hle g0 h'->h'.read1 h.next 1=some le:=fun h' l=>(v4.mono l).rd1 (i:=1) (c:=le) rfl
 have alen:=hA.llen
 rw [L138_1]
 refine loop_by (σ:=AVal×Nat×Nat) (fun p h'=>∃ (s:BS Kw) (own:List Nat) (mp:List (Kw×Int)),MemD g0 h' fe le A.letters.length (h.next+2) g2.next p.1 own s.w mp s.R (s.w.map (finK ends))/\MapS mp s.w 0/\s.st=p.2.2/\p.2.1<=s.w.length/\s.R.length=s.w.length/\capOk s=true /\
   runU (nextK f st) A.letters.length (4098 - p.2.1) p.2.1 s=runU (nextK f st) A.letters.length 4098 0 (begU A.letters.length s0))
  (fun p=>[(2,.func 136 [] [.ptr xb 0]),(3,.func 139 [] [.ptr b2 0,.ptr b3 0]),(4,.ptr h.next 0),(10,.ptr (h.next+1+1) 0),(11,.map g2.next),(12,p.1),(13,.int .i64 p.2.2),(14,.int .i64 p.2.1)]) (fun p=>4097 - p.2.1) (.slice h3.next 0 1 1 64,0,0) (by simp) ?_ ?_
 ·refine ⟨begU A.letters.length s0,own,_,C0,?_,rfl,by simp,rfl,by simp [capOk,begU],rfl⟩
  have:=(MapS.nil (κ:=Kw) 0).push (c:=s0) (by simp)
  simpa [aput,begU] using this
 clear C0 u1 u2 u3 w5 w4 le4 rd4 rd5 rd5' rd6 rd7 rd8 rd9
 generalize runU (nextK f st) A.letters.length 4098 0 (begU A.letters.length s0)=r at *
 rintro ⟨wv,n,steps⟩ h4 K ⟨s,own,mp,C,ms,hst',hn,hRl,cok,hrun⟩ hK
 simp only at C hst' hn hrun hK
 have wl:=C.work.len
 have cap:=cok
 unfold capOk at cap
 simp at cap
 simp [wl]
 refine ap_split (fun hd=>?_) (fun hd=>?_)
 ·have hd:n < s.w.length:=by omega
  have fr:=fel h4 C.hle
  simp [fr,alen]
  rw [L138_2]
  have hr1:r=runU (nextK f st) A.letters.length (4097 - n) (n+1) (rowU (nextK f st) A.letters.length n (List.range A.letters.length) s):=by
   rw [<-hrun,show 4098 - n=(4097 - n)+1 by omega]
   conv=>lhs;unfold runU
   rw [if_pos ⟨hd,cok⟩]
  have bad:∀ c,c < A.letters.length->¬ capOk (rowU (nextK f st) A.letters.length n (List.range (c+1)) s)=true->¬ capOk r=true:=fun c hc hb=>by
   rw [<-hrun,show 4098 - n=(4097 - n)+1 by omega]
   exact run_bad hd hc cok hb
  refine loop_by (σ:=AVal×Nat×Nat) (fun p h'=>∃ (own:List Nat) (mp:List (Kw×Int)),MemD g0 h' fe le A.letters.length (h.next+2) g2.next p.1 own (rowU (nextK f st) A.letters.length n (List.range p.2.1) s).w mp (rowU (nextK f st) A.letters.length n (List.range p.2.1) s).R ((rowU (nextK f st) A.letters.length n (List.range p.2.1) s).w.map (finK ends)) /\
    MapS mp (rowU (nextK f st) A.letters.length n (List.range p.2.1) s).w 0/\(rowU (nextK f st) A.letters.length n (List.range p.2.1) s).st=p.2.2/\p.2.1<=A.letters.length /\
    (rowU (nextK f st) A.letters.length n (List.range p.2.1) s).R.length=(rowU (nextK f st) A.letters.length n (List.range p.2.1) s).w.length/\capOk (rowU (nextK f st) A.letters.length n (List.range p.2.1) s)=true)
   (fun p=>[(2,.func 136 [] [.ptr xb 0]),(3,.func 139 [] [.ptr b2 0,.ptr b3 0]),(4,.ptr h.next 0),(10,.ptr (h.next+1+1) 0),(11,.map g2.next),(12,p.1),(13,.int .i64 p.2.2),(14,.int .i64 n),(40,.int .i64 A.letters.length),(41,.int .i64 p.2.1)]) (fun p=>A.letters.length - p.2.1) (wv,0,steps) (by simp) ?_ ?_
  ·exact ⟨own,mp,C,ms,hst',Nat.zero_le _,hRl,cok⟩
  clear C ms hst' hRl wl fr own mp
  rintro ⟨wv,c,steps⟩ h5 K2 ⟨own,mp,C,ms,hst',hcl,hRl,cok'⟩ hK2
  simp only at C ms hst' hcl hRl cok' hK2
  have rm:=rowU_mono (next:=nextK f st) (L:=A.letters.length) n (List.range c) s
  have cap':=cok'
  unfold capOk at cap'
  simp at cap'
  simp
  refine ap_split (fun hq=>?_) (fun hq=>?_)
  ·have hq:c < A.letters.length:=by omega
   have hb:=bad c hq
   have hsn:rowU (nextK f st) A.letters.length n (List.range (c+1)) s=stepU (nextK f st) A.letters.length n (rowU (nextK f st) A.letters.length n (List.range c) s) c:=by rw [List.range_succ,rowU_snoc]
   rw [hsn] at hb
   generalize hs':rowU (nextK f st) A.letters.length n (List.range c) s=s' at *
   have hnw:n < s'.w.length:=by omega
   have hwn:s'.w[n]?=some s'.w[n]:=List.getElem?_eq_getElem hnw
   obtain ⟨i1,rd⟩:=C.at hnw
   have wrc:wrapF .i64 ((c:Int)+1)=(c:Int)+1:=wrap64 (by omega) (by omega)
   simp [i1,rd,-List.reduceReplicate]
   refine f139 s'.w[n].2 (vx.mono (leh.trans C.hle)) hst (v2.mono (leh.trans C.hle)) (v3.mono (leh.trans C.hle)) (fm.mono (leh.trans C.hle)) hf fun h6 w6 le6=>?_
   have C6:=C.mono w6 le6
   have ht0:SetW (nextW f st s'.w[n].1 (c:Int)):=addW_ok emptyW_ok
   have hnk:nextK f st s'.w[n] c=if nextW f st s'.w[n].1 (c:Int)=emptyW then none else some ⟨nextW f st s'.w[n].1 (c:Int),ht0⟩:=rfl
   generalize nextW f st s'.w[n].1 (c:Int)=T at *
   have w7:=C6.wf.newCells (List.replicate 64 (.int .u64 (0:Int)))
   have le7:=Hle.newCells C6.wf (List.replicate 64 (.int .u64 (0:Int)))
   obtain ⟨h8,e1,e2,e3⟩:=(Blk.new h6 (List.replicate 64 (.int .u64 (0:Int)))).write (off:=0) (vs:=T.map uI) (by simp [ht0.len]) (allOne_uI T)
   have tl:=ht0.len
   simp [e1,tl,-List.reduceReplicate]
   have hge6:=C6.hle.next
   have l1:=C6.map.lt C6.wf
   have l2:=own_lt C6.work C6.wf
   have l3:=C6.mach.lt C6.wf
   have C8:=(C6.mono w7 le7).but w2 e3 (by simp) (by omega) (by omega) (fun hj=>by have:=l2 _ hj;omega) (fun hj=>by have:=l3 _ hj;omega)
   by_cases hT:T=emptyW
   ·have hs2:stepU (nextK f st) A.letters.length n s' c=s':=by unfold stepU;rw [hwn];simp only;rw [hnk,if_pos hT]
    rw [hs2] at hsn
    simp [hT,wrc]
    refine hK2 (wv,c+1,steps) _ _ (by simp;omega) ?_ ?_
    ·simp
    ·simp only [hsn]
     exact ⟨own,mp,C8,ms,hst',by omega,hRl,cok'⟩
   ·have hs2:stepU (nextK f st) A.letters.length n s' c=addU A.letters.length n c ⟨T,ht0⟩ s':=by unfold stepU;rw [hwn];simp only;rw [hnk,if_neg hT]
    rw [hs2] at hsn hb
    have st1:(addU A.letters.length n c (⟨T,ht0⟩:Kw) s').st=s'.st+1:=by unfold addU;split<;>rfl
    have wrs:wrapF .i64 ((steps:Int)+1)=(steps:Int)+1:=wrap64 (by omega) (by omega)
    simp [hT,wrs]
    refine ap_split (fun hz=>?_) (fun hz=>?_)
    ·have hbad:¬ capOk r=true:=hb (by unfold capOk;simp;intro h1;omega)
     simp
     exact fun w=>H0 hbad h8 w (leh.trans C8.hle)
    ·have v8:Blk h8 h6.next (T.map uI):=by simpa [tl] using e2
     have r8:=set_rd v8 ht0
     have lk:=C8.map.lookup kd132 ⟨T,ht0⟩ (.int .i64 0) true
     by_cases hin:(⟨T,ht0⟩:Kw)∈s'.w
     ·rw [ms.old hin,Int.add_zero] at lk
      have lk:lookupA ⟨132,true,List.replicate 64 (.int .u64)⟩ (.int .i64 0) true (.map g2.next) (.agg (T.map uI)) h8=some (.tup [.int .i64 (idxK s'.w ⟨T,ht0⟩:Int),.bool true]):=lk
      obtain ⟨tv,b,h9,y1,y2,y3,y4,y5,C9⟩:=C8.put w2 (n:=n) (c:=c) (by rw [hRl];exact hnw) hq (idxK s'.w ⟨T,ht0⟩:Int)
      have y1:h8.read1 (h.next+1+1) 2=some tv:=y1
      simp [r8,lk,y1,y2,y3,y4,y5,wrc,-List.reduceReplicate]
      rw [addU_old _ hin] at hsn
      refine hK2 (wv,c+1,steps+1) _ _ (by simp;omega) ?_ ?_
      ·simp
      ·simp only [hsn]
       refine ⟨own,mp,C9,ms,by show s'.st+1=steps+1;omega,by omega,by rw [setRC_length];exact hRl,?_⟩
       unfold capOk;simp;omega
     ·rw [ms.new hin] at lk
      have lk:lookupA ⟨132,true,List.replicate 64 (.int .u64)⟩ (.int .i64 0) true (.map g2.next) (.agg (T.map uI)) h8=some (.tup [.int .i64 0,.bool false]):=lk
      have wl8:=C8.work.len
      rw [addU_new _ hin] at hsn hb
      by_cases h96:s'.w.length=4096
      ·have hbad:¬ capOk r=true:=hb (by unfold capOk;simp;omega)
       rw [h96] at wl8
       simp [r8,lk,wl8,-List.reduceReplicate]
       exact fun w=>H0 hbad h8 w (leh.trans C8.hle)
      ·have n96:¬ ((s'.w.length:Int)=4096):=by omega
       have lts:s'.w.length<=4096:=by omega
       simp [r8,lk,wl8,n96,h96,-List.reduceReplicate]
       refine f136 ht0 (vx.mono (leh.trans C8.hle)) (hen.mono (leh.trans C8.hle)) hel heb fun h9 w9 le9=>?_
       have C9:=C8.mono w9 le9
       have ne1:h6.next∉own:=fun hj=>by have:=l3 _ hj;omega
       simp
       refine f71 C9.mach (hA.mono (leh.trans C9.hle)) rfl hL1 hL (by omega) _ fun h10 own' w10 N10 ho10 hx10=>?_
       have C10:=C9.add w2 w10 N10 ho10 hx10
       have v10:=Blk.kp (v8.mono le9) (hx10.get _ ne1)
       have r10:=set_rd v10 ht0
       obtain ⟨h11,f1,C11,bt⟩:=C10.upd w2 ⟨T,ht0⟩ (s'.w.length:Int)
       have f1:updateA ⟨132,true,List.replicate 64 (.int .u64)⟩ (.map g2.next) (.agg (T.map uI)) (.int .i64 (s'.R.length:Int)) h10=some (none,h11):=by rw [hRl];exact f1
       have r11:=set_rd (Blk.kp v10 (But.kp bt (by omega))) ht0
       obtain ⟨h12,p1,C12⟩:=C11.pushW w2 ⟨T,ht0⟩ (by omega)
       have p1:appendA (h11.newCells (T.map uI)) 64 wv (.slice h11.next 0 1 1 64)=some (some (.slice (h11.next+1) 0 (s'.w.length+1) (s'.w.length+1) 64),h12):=p1
       obtain ⟨tv,b,h13,y1,y2,y3,y4,y5,C13⟩:=C12.put w2 (n:=n) (c:=c) (by simp;omega) hq (s'.w.length:Int)
       have y1:h12.read1 (h.next+1+1) 2=some tv:=y1
       have lpT:listPut (List.replicate 64 (.int .u64 (0:Int))) 0 (T.map uI)=T.map uI:=listPut_all (by simp [tl])
       rw [<-hRl] at y5
       simp [r10,f1,r11,lpT,tl,p1,y1,y2,y3,y4,y5,wrc,-List.reduceReplicate]
       have pm:=ms.push hin
       rw [Int.add_zero] at pm
       refine hK2 (.slice (h11.next+1) 0 (s'.w.length+1) (s'.w.length+1) 64,c+1,steps+1) _ _ (by simp;omega) ?_ ?_
       ·simp
       ·simp only [hsn]
        refine ⟨own',_,?_,pm,by show s'.st+1=steps+1;omega,by omega,by rw [setRC_length];simp;omega,?_⟩
        ·rw [List.map_append];exact C13
        ·unfold capOk;simp;omega
  ·have:c=A.letters.length:=by omega
   subst this
   have wr:wrapF .i64 ((n:Int)+1)=(n:Int)+1:=wrap64 (by omega) (by omega)
   simp [wr]
   refine hK (wv,n+1,steps) _ _ (by simp;omega) ?_ ⟨_,own,mp,C,ms,hst',by simp;omega,hRl,cok',?_⟩
   ·simp
   ·rw [hr1,show 4098 - (n+1)=4097 - n by omega]
 ·have:n=s.w.length:=by omega
  subst this
  have hr:r=s:=by
   rw [<-hrun]
   rw [show 4098 - s.w.length=(4097 - s.w.length)+1 by omega]
   unfold runU
   rw [if_neg (by simp)]
  simp
  subst hr
  exact fun w=>H1 cok h4 (h.next+2) own w (leh.trans C.hle) C.mach fun j hj=>by have:=C.go j hj;omega
end Go.Ab.Z
namespace Go.Ab.Z
open Go Go.Ab
variable {h h':AHeap} {k:Post} {fe le en mo:AVal} {A:PAlpha} {X:PAuto}
def keyM (A:PAlpha) (m:PMove):Int×Int:=(m.src,(rankOf A.letters m.rune).getD 0)
def byM (A:PAlpha) (ms:List PMove):Int×Int->List Int:=ms.foldl (fun f m=>pushF f (keyM A m) m.dst) fun _=>[]
theorem byM_snoc (A:PAlpha) (ms:List PMove) (m:PMove):byM A (ms++[m])=pushF (byM A ms) (keyM A m) m.dst:=by simp [byM,List.foldl_append]
theorem byM_mem (A:PAlpha):∀ (ms:List PMove) (p:Int×Int) (t:Int),t∈byM A (ms.reverse) p->∃ m∈ms,m.dst=t
 | [],p,t,h=>by simp [byM] at h
 | m :: ms,p,t,h=>by
  rw [List.reverse_cons,byM_snoc] at h
  unfold pushF at h
  split at h
  ·rcases List.mem_append.1 h with h | h
   ·obtain ⟨x,h1,h2⟩:=byM_mem A ms _ t h
    exact ⟨x,by simp [h1],h2⟩
   ·simp at h;exact ⟨m,by simp,h.symm⟩
  ·obtain ⟨x,h1,h2⟩:=byM_mem A ms _ t h
   exact ⟨x,by simp [h1],h2⟩
theorem byM_len (A:PAlpha):∀ (ms:List PMove) (p:Int×Int),(byM A (ms.reverse) p).length<=ms.length
 | [],p=>by simp [byM]
 | m :: ms,p=>by
  rw [List.reverse_cons,byM_snoc]
  unfold pushF
  split
  ·have:=byM_len A ms (keyM A m);simp;omega
  ·have:=byM_len A ms p;simp;omega
theorem byM_len' (A:PAlpha) (ms:List PMove) (p:Int×Int):(byM A ms p).length<=ms.length:=by
 have:=byM_len A ms.reverse p;simpa using this
theorem byM_mem' (A:PAlpha) {ms:List PMove} {p:Int×Int} {t:Int} (h:t∈byM A ms p):∃ m∈ms,m.dst=t:=by
 have:=byM_mem A ms.reverse p t (by simpa using h)
 obtain ⟨m,h1,h2⟩:=this
 exact ⟨m,by simpa using h1,h2⟩
def sZ:Kw:=⟨putW emptyW 0,emptyW_ok.put 0⟩
def detR (A:PAlpha) (X:PAuto):BS Kw:=runU (nextK (byM A X.moves) X.states.toNat) A.letters.length 4098 0 (begU A.letters.length sZ)
def detE (A:PAlpha) (X:PAuto):List Bool:=(detR A X).w.map (finK X.ends)
theorem found_rank (_:AVal) (o:Option Int):found (.int .i64 0) false (o.map vI)=some (vI (o.getD 0)):=by cases o<;>rfl
theorem f83 (hA:IsAlpha h fe le A) (hX:IsAuto h en mo X) (ha:AlphaOk A) (hx:AutoOk A X)
  (H1:capOk (detR A X)=true->∀ h' m own,WF h'->Hle h h'->Mach h' m fe le A.letters.length (detR A X).R (detE A X) own->(∀ j∈own,h.next<=j)->k (.tup [.ptr m 0,.bool true]) h')
  (H0:¬ capOk (detR A X)=true->∀ h',WF h'->Hle h h'->k (.tup [.nilp,.bool false]) h'):Cf 83 [.agg [fe,le],aV X.states en mo] h k:=by
 refine use_code compiled83 fun hw=>?_
 have hd:=ha.2.2.2
 have w1:=hw.newCells [fe,le]
 have le1:=Hle.newCells hw [fe,le]
 have w2:=w1.newCells [.int .i64 X.states,en,mo]
 have le2:=Hle.newCells w1 [.int .i64 X.states,en,mo]
 have va:=(Blk.new h [fe,le]).mono le2
 have vx:=Blk.new (h.newCells [fe,le]) [.int .i64 X.states,en,mo]
 have rda:=va.rd (off:=0) (n:=2) (l:=[fe,le]) (by simp) rfl
 simp only [next_newCells] at vx
 simp [fn83,aV,rda,-List.reduceReplicate]
 refine f70 (hA.mono (le1.trans le2)) hd fun h3 rb rm w3 le3 hrb mr hr=>?_
 have leh:=(le1.trans le2).trans le3
 have va:=va.mono le3
 have vx:=vx.mono le3
 have n3:=le3.next
 simp only [next_newCells] at n3
 have w4:=w3.new (.map 75 [] 0)
 have le4:=Hle.new w3 (.map 75 [] 0)
 have w5:=w4.newCells [.nilm]
 have le5:=Hle.newCells w4 [.nilm]
 obtain ⟨h6,a1,a2,a3⟩:=(Blk.new (h3.new (.map 75 [] 0)) [.nilm]).write1 (i:=0) (c:=.map h3.next) (by simp) rfl
 have w6:=a3.wf w5 (by simp)
 have nx6:h6.next=h3.next+2:=by rw [a3.next];simp
 simp only [next_newMap] at a1 a2 a3
 have rm18:=((vx.mono le4).mono le5).rd1 (i:=2) (c:=mo) rfl
 have rm18':=(Blk.kp ((vx.mono le4).mono le5) (But.kp a3 (by omega))).rd1 (i:=2) (c:=mo) rfl
 have ml:=hX.mo.len
 simp only [List.length_map] at ml
 simp [a1,rm18',ml,-List.reduceReplicate]
 have M0:MemY h3 h6 h3.next [] (byM A (X.moves.take 0)):=by
  have leM:=le4.trans le5
  exact ⟨w6,a3.hle (le4.trans le5) w3 (by omega),((MapB.new (K:=K75) (ek:=e75) (ev:=id) h3).kp (le5.get _)).kp (But.kp a3 (by omega)),fun p v e=>(by cases e),fun p _=>(by simp [byM]),fun p v e=>(by cases e),fun p q v u e=>(by cases e),Nat.le_refl _⟩
 rw [L83_1]
 have xm:=hX.nm
 refine loop_by (σ:=Nat) (fun i h'=>i<=X.moves.length/\∃ m,MemY h3 h' h3.next m (byM A (X.moves.take i))/\Blk h' (h3.next+1) [.map h3.next]/\(∀ p v,aget m p=some v->h3.next+1∉blkOf v))
  (fun i=>[(2,.ptr h.next 0),(3,.ptr (h.next+1) 0),(6,.map rb),(7,.ptr (h3.next+1) 0),(18,mo),(19,.int .i64 X.moves.length),(20,.int .i64 i)]) (fun i=>X.moves.length - i) 0 (by simp) ?_ ?_
 ·exact ⟨Nat.zero_le _,[],M0,by simpa using a2,fun p v e=>by cases e⟩
 clear M0 a1 a2 a3 w4 w5 w6 le4 le5 rm18 rm18' nx6
 rintro i h7 K ⟨hi,m,M,vc,nc⟩ hK
 simp
 refine ap_split (fun hc=>?_) (fun hc=>?_)
 ·have hc:i < X.moves.length:=by omega
  have b1:=hX.mo.idx (i:=i) (by simpa using hc) .i64
  have b2:=(hX.mo.mono (leh.trans M.hle)).rd (i:=i) (l:=X.moves[i].cells) (by simp [hc])
  have w8:=M.wf.newCells [.int .i64 0,.int .i64 0,.int .i32 0]
  have le8:=Hle.newCells M.wf [.int .i64 0,.int .i64 0,.int .i32 0]
  obtain ⟨h9,c1,c2,c3⟩:=(Blk.new h7 [.int .i64 0,.int .i64 0,.int .i32 0]).write (off:=0) (vs:=X.moves[i].cells) (by simp) rfl
  have le9:=c3.hle le8 M.wf (Nat.le_refl _)
  have w9:=c3.wf w8 (by simp)
  have nx9:h9.next=h7.next+1:=by rw [c3.next];simp
  have c2:Blk h9 h7.next X.moves[i].cells:=by simpa using c2
  have d0:=c2.rd1 (i:=0) (c:=.int .i64 X.moves[i].src) rfl
  have d1:=c2.rd1 (i:=1) (c:=.int .i64 X.moves[i].dst) rfl
  have d2:=c2.rd1 (i:=2) (c:=.int .i32 X.moves[i].rune) rfl
  have lk:=(mr.mono (M.hle.trans le9)).lookup (kd21 Int vI) X.moves[i].rune (.int .i64 0) false
  rw [hr,found_rank .nils] at lk
  have lk:lookupA ⟨21,false,[.int .i32]⟩ (.int .i64 0) false (.map rb) (.int .i32 X.moves[i].rune) h9=some (vI ((rankOf A.letters X.moves[i].rune).getD 0)):=lk
  have w10:=w9.newCells [.int .i64 0,.int .i64 0]
  have le10:=Hle.newCells w9 [.int .i64 0,.int .i64 0]
  obtain ⟨h11,e1,e2,e3⟩:=(Blk.new h9 [.int .i64 0,.int .i64 0]).write (off:=0) (vs:=[.int .i64 X.moves[i].src,.int .i64 ((rankOf A.letters X.moves[i].rune).getD 0)]) (by simp) rfl
  have le11:=e3.hle le10 w9 (Nat.le_refl _)
  have w11:=e3.wf w10 (by simp)
  have nx11:h11.next=h7.next+2:=by rw [e3.next];simp [nx9]
  have e2:Blk h11 h9.next [.int .i64 X.moves[i].src,.int .i64 ((rankOf A.letters X.moves[i].rune).getD 0)]:=by simpa using e2
  have q1:=e2.rd (off:=0) (n:=2) (l:=[.int .i64 X.moves[i].src,.int .i64 ((rankOf A.letters X.moves[i].rune).getD 0)]) (by simp) rfl
  have q2:=(c2.mono le11).rd1 (i:=1) (c:=.int .i64 X.moves[i].dst) rfl
  have q3:=(vc.mono (le9.trans le11)).rd1 (i:=0) (c:=.map h3.next) rfl
  have M11:=M.mono w11 (le9.trans le11)
  have bl:=byM_len' A (X.moves.take i) (keyM A X.moves[i])
  rw [List.length_take] at bl
  obtain ⟨n,g1,g2,g3,v,m',y1,y2,y3,M',fr,_⟩:=M11.push w3 (keyM A X.moves[i]) X.moves[i].dst (by have:=hx.1.2.2;omega)
  obtain ⟨fr1,fr2⟩:=fr (h3.next+1) (by have:=vc.lt M.wf;omega) (by omega) nc
  have wr:wrapF .i64 ((i:Int)+1)=(i:Int)+1:=wrap64 (by omega) (by omega)
  have y1:mapEntryA ⟨75,true,[.int .i64,.int .i64]⟩ .nils (.map h3.next) (.agg [.int .i64 X.moves[i].src,.int .i64 ((rankOf A.letters X.moves[i].rune).getD 0)]) (h11.newCells [.int .i64 X.moves[i].dst])=some (some (.tup [v,.int .i64 (n:Int)]),g1):=y1
  have c1:(h7.newCells [.int .i64 0,.int .i64 0,.int .i32 0]).write h7.next 0 [.int .i64 X.moves[i].src,.int .i64 X.moves[i].dst,.int .i32 X.moves[i].rune]=some h9:=c1
  simp [b1,b2,c1,d0,d1,d2,lk,listPut,vI,e1,q1,q2,q3,y1,y2,y3,wr]
  refine hK (i+1) _ _ (by omega) (by simp) ⟨by omega,m',?_,Blk.kp (vc.mono (le9.trans le11)) fr1,fr2⟩
  rw [List.take_succ_eq_append_getElem hc,byM_snoc]
  exact M'
 ·have:i=X.moves.length:=by omega
  subst this
  rw [List.take_length] at M
  obtain ⟨st,hst⟩:=Int.eq_ofNat_of_zero_le (show 0<=X.states by have:=hx.1.1;omega)
  have h4096:=hx.1.2.1
  have va7:=va.mono M.hle
  have vx7:=vx.mono M.hle
  have w8:=M.wf.newCells [.nilf]
  have le8:=Hle.newCells M.wf [.nilf]
  obtain ⟨h9,c1,c2,c3⟩:=(Blk.new h7 [.nilf]).write1 (i:=0) (c:=.func 135 [] [.ptr (h.next+1) 0]) (by simp) rfl
  have le9:=c3.hle le8 M.wf (Nat.le_refl _)
  have w9:=c3.wf w8 (by simp)
  have nx9:h9.next=h7.next+1:=by rw [c3.next];simp
  have c2:Blk h9 h7.next [.func 135 [] [.ptr (h.next+1) 0]]:=by simpa using c2
  have w10:=w9.newCells (List.replicate 64 (.int .u64 (0:Int)))
  have le10:=Hle.newCells w9 (List.replicate 64 (.int .u64 (0:Int)))
  have v12:=Blk.new h9 (List.replicate 64 (.int .u64 (0:Int)))
  rw [<-empty_cells] at v12
  simp [c1,-List.reduceReplicate]
  refine f77 (ws:=emptyW) v12 emptyW_ok (n:=0) (by omega) fun h11 w11 bt v11=>?_
  have le11:=bt.hle le10 w9 (Nat.le_refl _)
  have le711:=le9.trans le11
  have r1:=(va7.mono le711).rd (off:=0) (n:=2) (l:=[fe,le]) (by simp) rfl
  have r2:=set_rd v11 (emptyW_ok.put 0)
  simp [r1,r2,-List.reduceReplicate]
  have leA:=leh.trans (M.hle.trans le711)
  rw [hst] at vx7 h4096
  have e1:detR A X=runU (nextK (byM A X.moves) st) A.letters.length 4098 0 (begU A.letters.length sZ):=by unfold detR;rw [hst];rfl
  refine f138 (xb:=h.next+1) (b2:=h7.next) (b3:=h3.next+1) (mf:=h3.next) (st:=st) (f:=byM A X.moves) (ends:=X.ends) (s0:=sZ) (hA.mono leA) ha.1.2.1 ha.1.2.2 (vx7.mono le711) (by omega) (c2.mono le11) (vc.mono le711) (M.by.mono le711) (fun p=>⟨?_,fun t ht=>?_⟩) (hX.en.mono leA) (by have:=hX.ne;omega) (fun x hx'=>?_) ?_ ?_
  ·have:=byM_len' A X.moves p;have:=hx.1.2.2;omega
  ·obtain ⟨mv,h1,h2⟩:=byM_mem' A ht
   have:=(hx.2.2.1 mv h1).2.1
   unfold inS at this
   simp at this
   omega
  ·obtain ⟨i,hi,rfl⟩:=List.getElem_of_mem hx'
   have:=(hx.2.1 i hi).1
   unfold inS at this
   simp at this
   omega
  ·intro cok h12 m' own w12 le12 Mc ho
   have leB:=leA.trans le12
   simp
   intro w
   have nA:=leA.next
   exact H1 (by rw [e1];exact cok) h12 m' own w leB (by unfold detE;rw [e1];exact Mc) fun j hj=>by have:=ho j hj;omega
  ·intro cok h12 w12 le12
   simp
   exact fun w=>H0 (by rw [e1];exact cok) h12 w (leA.trans le12)
end Go.Ab.Z
namespace Go.Ab.Z
open Go Go.Ab
def InM (n:Nat) (sy:List Int) (m:PMove):Prop:=0<=m.src/\m.src < (n:Int)/\0<=m.dst/\m.dst < (n:Int)/\m.rune∈sy
theorem InM.le {n n':Nat} {sy:List Int} {m:PMove} (h:InM n sy m) (l:n<=n'):InM n' sy m:=⟨h.1,by have:=h.2.1;omega,h.2.2.1,by have:=h.2.2.2.1;omega,h.2.2.2.2⟩
theorem rowL_w {C:Int->Int} {src:Nat} {sy:List Int} {n:Nat}:∀ (zs:List (Int×Int)) (w:List Int) (ms:List PMove),(∀ z∈zs,z.1 < (n:Int)/\z.2∈sy)->src < w.length->WOk n C w->(∀ m∈ms,InM w.length sy m) ->
  w.length<=(rowL C src zs w ms).1.length/\WOk n C (rowL C src zs w ms).1/\∀ m∈(rowL C src zs w ms).2,InM (rowL C src zs w ms).1.length sy m
 | [],w,ms,_,_,ho,hm=>⟨Nat.le_refl _,ho,hm⟩
 | (x,c) :: r,w,ms,hz,hs,ho,hm=>by
  obtain ⟨z1,z2⟩:=hz (x,c) (by simp)
  unfold rowL
  split
  ·exact rowL_w r w ms (fun z h=>hz z (by simp [h])) hs ho hm
  ·rename_i hx
   simp only [not_or,Int.not_lt] at hx
   have key:∀ w':List Int,w'=(if C x∈w.map C then w else w++[x])->w.length<=w'.length/\WOk n C w'/\idxK (w.map C) (C x) < w'.length:=by
    rintro w' rfl
    split
    ·rename_i h
     refine ⟨Nat.le_refl _,ho,?_⟩
     have:=List.idxOf_lt_length_of_mem h
     simpa [idxK] using this
    ·rename_i h
     have:=idxK_le (w.map C) (C x)
     rw [List.length_map] at this
     exact ⟨by simp,ho.push hx.1 z1 h,by simp;omega⟩
   obtain ⟨k1,k2,k3⟩:=key _ rfl
   generalize (if C x∈w.map C then w else w++[x])=w' at *
   obtain ⟨r1,r2,r3⟩:=rowL_w (C:=C) (src:=src) (sy:=sy) (n:=n) r w' (ms++[⟨src,(idxK (w.map C) (C x):Int),c⟩]) (fun z h=>hz z (by simp [h])) (by omega) k2 (fun m h=>by
    rcases List.mem_append.1 h with h | h
    ·exact (hm m h).le k1
    ·simp at h;subst h
     exact ⟨Int.natCast_nonneg _,by show (src:Int) < _;omega,Int.natCast_nonneg _,by show ((idxK (w.map C) (C x):Nat):Int) < _;omega,z2⟩)
   exact ⟨by omega,r2,r3⟩
def EnOk (i:Nat) (en:List Int):Prop:=en.Pairwise (· < ·)/\∀ e∈en,0<=e/\e < (i:Int)
theorem bfsL_w {R:List (List Int)} {E:List Bool} {C:Int->Int} {sy:List Int} (hb:∀ r∈R,∀ t∈r,t < (R.length:Int)):∀ (F i:Nat) (w en:List Int) (ms:List PMove),i<=w.length->WOk R.length C w->EnOk i en->(∀ m∈ms,InM w.length sy m) ->
  WOk R.length C (bfsL R E C sy F i w en ms).1/\w.length<=(bfsL R E C sy F i w en ms).1.length/\EnOk (bfsL R E C sy F i w en ms).1.length (bfsL R E C sy F i w en ms).2.1/\∀ m∈(bfsL R E C sy F i w en ms).2.2,InM (bfsL R E C sy F i w en ms).1.length sy m
 | 0,i,w,en,ms,hi,ho,he,hm=>⟨ho,Nat.le_refl _,⟨he.1,fun e h=>by have:=he.2 e h;simp only [bfsL];omega⟩,hm⟩
 | F+1,i,w,en,ms,hi,ho,he,hm=>by
  unfold bfsL
  cases hw:w[i]? with
  | none=>exact ⟨ho,Nat.le_refl _,⟨he.1,fun e h=>by have:=he.2 e h;simp only;omega⟩,hm⟩
  | some s =>
   have hil:=(List.getElem?_eq_some_iff.1 hw).1
   obtain ⟨r1,r2,r3⟩:=rowL_w (C:=C) (src:=i) (sy:=sy) (n:=R.length) ((R.getD s.toNat []).zip sy) w ms (fun z h=>by
    obtain ⟨h1,h2⟩:=List.of_mem_zip (a:=z.1) (b:=z.2) h
    refine ⟨?_,h2⟩
    rw [List.getD_eq_getElem?_getD] at h1
    cases hr:R[s.toNat]? with
    | none=>rw [hr] at h1;simp at h1
    | some r=>rw [hr] at h1;exact hb r (List.mem_of_getElem? hr) _ h1) hil ho hm
   have hen:EnOk (i+1) (if E.getD s.toNat false=true then en++[(i:Int)] else en):=by
    split
    ·refine ⟨List.pairwise_append.2 ⟨he.1,by simp,fun a ha b hb=>?_⟩,fun e h=>?_⟩
     ·simp at hb;subst hb;exact (he.2 a ha).2
     ·rcases List.mem_append.1 h with h | h
      ·have:=he.2 e h;omega
      ·simp at h;omega
    ·exact ⟨he.1,fun e h=>by have:=he.2 e h;omega⟩
   obtain ⟨q1,q2,q3,q4⟩:=bfsL_w (E:=E) (C:=C) (sy:=sy) hb F (i+1) _ _ _ (by omega) r2 hen r3
   exact ⟨q1,by simp only at q2 ⊢;omega,q3,q4⟩
structure LeastW (n:Nat) (sy:List Int) (Y:PAuto):Prop where
 st:1<=Y.states/\Y.states<=(n:Int)
 en:EnOk Y.states.toNat Y.ends
 mo:∀ m∈Y.moves,InM Y.states.toNat sy m
theorem leastX_w {R:List (List Int)} {E:List Bool} {sy:List Int} (hne:R≠[]) (hb:∀ r∈R,∀ t∈r,t < (R.length:Int)):LeastW R.length sy (leastX R E sy):=by
 have hpos:0 < R.length:=by cases R with | nil=>exact absurd rfl hne | cons _ _=>simp
 unfold leastX
 split
 ·exact ⟨⟨by simp,by simp;omega⟩,⟨by simp,by simp⟩,by simp⟩
 ·obtain ⟨q1,q2,q3,q4⟩:=bfsL_w (E:=E) (C:=valP (canonC R E)) (sy:=sy) hb (R.length+1) 0 [0] [] [] (by simp) ⟨by simp,by simp;omega⟩ ⟨by simp,by simp⟩ (by simp)
  have:=q1.le
  refine ⟨⟨by simp at q2 ⊢;omega,by simp;omega⟩,by simpa using q3,by simpa using q4⟩
def blankR (L n:Nat):List (List Int):=List.replicate n (List.replicate L (-1))
def rankN (ls:List PLetter) (r:Int):Nat:=(number ls r 0).toNat
def putM (ls:List PLetter) (R:List (List Int)) (m:PMove):List (List Int):=setRC R m.src.toNat (rankN ls m.rune) m.dst
def reR (ls:List PLetter) (Y:PAuto):List (List Int):=Y.moves.foldl (putM ls) (blankR ls.length Y.states.toNat)
def reE (Y:PAuto):List Bool:=(List.range Y.states.toNat).map fun n:Nat=>decide ((n:Int)∈Y.ends)
theorem reE_length (Y:PAuto):(reE Y).length=Y.states.toNat:=by simp [reE]
theorem foldM_length (ls:List PLetter):∀ (ms:List PMove) (R:List (List Int)),(ms.foldl (putM ls) R).length=R.length
 | [],R=>rfl
 | m :: ms,R=>by rw [List.foldl_cons,foldM_length ls ms];exact setRC_length _ _ _ _
theorem reR_length (ls:List PLetter) (Y:PAuto):(reR ls Y).length=Y.states.toNat:=by unfold reR;rw [foldM_length];simp [blankR]
structure RowsW (L n:Nat) (R:List (List Int)):Prop where
 len:∀ r∈R,r.length=L
 bd:∀ r∈R,∀ t∈r,-1<=t/\t < (n:Int)
theorem RowsW.put {L n:Nat} {R:List (List Int)} (w:RowsW L n R) (i k:Nat) {x:Int} (hx:-1<=x/\x < (n:Int)):RowsW L n (setRC R i k x):=by
 by_cases hi:i < R.length
 ·have gd:R.getD i []=R[i]:=by rw [List.getD_eq_getElem?_getD,List.getElem?_eq_getElem hi];rfl
  have hm:=List.getElem_mem hi
  refine ⟨fun r hr=>?_,fun r hr t ht=>?_⟩
  ·rcases List.mem_or_eq_of_mem_set hr with h | h
   ·exact w.len r h
   ·rw [h,List.length_set,gd];exact w.len _ hm
  ·rcases List.mem_or_eq_of_mem_set hr with h | h
   ·exact w.bd r h t ht
   ·rw [h,gd] at ht
    rcases List.mem_or_eq_of_mem_set ht with h | h
    ·exact w.bd _ hm t h
    ·rw [h];exact hx
 ·have:setRC R i k x=R:=by unfold setRC;rw [List.set_eq_of_length_le (by omega)]
  rw [this];exact w
theorem foldM_w {ls:List PLetter} {L n:Nat}:∀ (ms:List PMove) {R:List (List Int)},RowsW L n R->(∀ m∈ms,0<=m.dst/\m.dst < (n:Int))->RowsW L n (ms.foldl (putM ls) R)
 | [],R,w,_=>w
 | m :: ms,R,w,h=>foldM_w ms (w.put _ _ (by have:=h m (by simp);omega)) fun x hx=>h x (by simp [hx])
theorem blankR_w (L n:Nat):RowsW L n (blankR L n):=⟨fun r hr=>by rw [List.eq_of_mem_replicate hr];simp,fun r hr t ht=>by rw [List.eq_of_mem_replicate hr] at ht;rw [List.eq_of_mem_replicate ht];omega⟩
theorem reR_w {ls:List PLetter} {n:Nat} {sy:List Int} {Y:PAuto} (w:LeastW n sy Y):RowsW ls.length Y.states.toNat (reR ls Y) :=
 foldM_w _ (blankR_w _ _) fun m hm=>⟨(w.mo m hm).2.2.1,(w.mo m hm).2.2.2.1⟩
end Go.Ab.Z
namespace Go.Ab.Z
open Go Go.Ab
variable {h h':AHeap} {k:Post}
theorem f178 {x:Int} (H:WF h->k (.bool false) h):Cf 178 [.int .i64 x] h k:=by
 refine use_code compiled178 fun hw=>?_
 simp [fn178]
 exact H
theorem f167 {x:Int} (H:WF h->k (.bool false) h):Cf 167 [.int .i64 x] h k:=by
 refine use_code compiled167 fun hw=>?_
 simp [fn167]
 exact H
theorem f166 {x y:Int} (H:WF h->k (.bool (decide (x < y))) h):Cf 166 [.int .i64 x,.int .i64 y] h k:=by
 refine use_code compiled166 fun hw=>?_
 simp [fn166]
 refine f178 fun w=>?_
 simp
 exact H
theorem shr1 {a:Nat}:binI .shr .u64 .u64 (a:Int) 1=some (.int .u64 ((a / 2:Nat):Int)):=by
 show some (AVal.int .u64 ((a:Int).fdiv (2 ^ (min 1 64))))=_
 rw [Int.fdiv_eq_ediv_of_nonneg _ (by decide)]
 rfl
theorem f140 {r:AVal} {l:List Int} (hr:Row1 h r (l.map vI)) (hl:l.length<=1048577) (hs:l.Pairwise (· < ·)) {x:Int} (H:∀ i:Int,WF h->k (.tup [.int .i64 i,.bool (decide (x∈l))]) h):Cf 140 [r,.int .i64 x] h k:=by
 refine use_code compiled140 fun hw=>?_
 have rl:=hr.len
 simp only [List.length_map] at rl
 have rise:∀ a b:Nat,(ha:a < l.length)->(hb:b < l.length)->a < b->l[a] < l[b]:=fun a b ha hb hab=>List.pairwise_iff_getElem.1 hs a b ha hb hab
 simp [fn140,rl]
 rw [L140_1]
 refine loop_by (σ:=Nat×Nat) (fun p h'=>h'=h/\p.1<=p.2/\p.2<=l.length/\(∀ a (ha:a < l.length),a < p.1->l[a] < x)/\∀ a (ha:a < l.length),p.2<=a->¬ l[a] < x)
  (fun p=>[(0,r),(1,.int .i64 x),(4,.int .i64 0),(5,.bool false),(6,.int .i64 l.length),(7,.int .i64 p.1),(8,.int .i64 p.2)]) (fun p=>p.2 - p.1) (0,l.length) (by simp) ?_ ?_
 ·exact ⟨rfl,Nat.zero_le _,Nat.le_refl _,fun a _ h=>by simp at h,fun a ha h=>by simp at h;omega⟩
 rintro ⟨i,j⟩ h' K ⟨rfl,hij,hj,hlo,hhi⟩ hK
 simp only at hij hj hlo hhi hK
 simp
 refine ap_split (fun hc=>?_) (fun hc=>?_)
 ·have hc:i < j:=by omega
  have w1:wrapF .i64 ((i:Int)+(j:Int))=((i+j:Nat):Int):=by rw [wrap64 (by omega) (by omega)];omega
  have w2:wrapF .u64 ((i+j:Nat):Int)=((i+j:Nat):Int):=wrapU64 (by omega) (by omega)
  have s1:=shr1 (a:=i+j)
  have hm:(i+j) / 2 < l.length:=by omega
  generalize hmid:(i+j) / 2=m at *
  have w3:wrapF .i64 ((m:Nat):Int)=(m:Int):=wrap64 (by omega) (by omega)
  have a1:=hr.idx (i:=m) (by simpa using hm) .i64
  have a2:=hr.rd (i:=m) (c:=vI l[m]) (by simp [hm])
  simp [w1,w2,s1,w3,a1,a2,vI,-Int.natCast_add]
  refine f166 fun w=>?_
  simp
  refine ap_split (fun hq=>?_) (fun hq=>?_)
  ·have w4:wrapF .i64 ((m:Int)+1)=(m:Int)+1:=wrap64 (by omega) (by omega)
   simp [w4]
   refine hK (m+1,j) _ _ (by simp;omega) (by simp) ⟨rfl,by simp;omega,hj,fun a ha hlt=>?_,hhi⟩
   simp only at hlt
   by_cases e:a=m
   ·subst e;exact hq
   ·have:=rise a m ha hm (by omega);omega
  ·simp
   refine hK (i,m) _ _ (by simp;omega) (by simp) ⟨rfl,by simp;omega,by simp;omega,hlo,fun a ha hge=>?_⟩
   simp only at hge
   by_cases e:a=m
   ·subst e;exact hq
   ·have:=rise m a hm ha (by omega);omega
 ·have:i=j:=by omega
  subst this
  have not_in:(∀ hi:i < l.length,l[i]≠x)->x∉l:=by
   intro hne hin
   obtain ⟨a,ha,e⟩:=List.getElem_of_mem hin
   by_cases h1:a < i
   ·have:=hlo a ha h1;omega
   ·have h2:=hhi a ha (by omega)
    by_cases h3:a=i
    ·subst h3;exact hne ha e
    ·have hi:i < l.length:=by omega
     have:=rise i a hi ha (by omega)
     have:=hhi i hi (Nat.le_refl _)
     omega
  simp
  by_cases hq:i < l.length
  ·have a1:=hr.idx (i:=i) (by simpa using hq) .i64
   have a2:=hr.rd (i:=i) (c:=vI l[i]) (by simp [hq])
   have d1:decide (i < l.length)=true:=decide_eq_true hq
   simp only [d1]
   simp [a1,a2,vI]
   by_cases e:l[i]=x
   ·have hin:x∈l:=e ▸ List.getElem_mem hq
    have d2:decide (l[i]=x)=true:=decide_eq_true e
    simp only [d2]
    simp
    intro w
    exact kcast (H i w) (by rw [decide_eq_true hin];rfl)
   ·have hin:=not_in fun _=>e
    have d2:decide (l[i]=x)=false:=decide_eq_false e
    simp only [d2]
    simp [a1,a2,vI]
    refine f167 fun w=>?_
    simp
    intro w
    exact kcast (H i w) (by rw [decide_eq_false hin];rfl)
  ·have hin:=not_in fun hi=>by omega
   have d1:decide (i < l.length)=false:=decide_eq_false hq
   simp only [d1]
   simp
   intro w
   exact kcast (H i w) (by rw [decide_eq_false hin];rfl)
end Go.Ab.Z
namespace Go.Ab.Z
open Go Go.Ab
structure RunW {κ:Type} (L:Nat) (s:BS κ):Prop where
 rows:RowsW L s.w.length s.R
 len:s.R.length=s.w.length
theorem RowsW.more {L n n':Nat} {R:List (List Int)} (w:RowsW L n R) (h:n<=n'):RowsW L n' R:=⟨w.len,fun r hr t ht=>by have:=w.bd r hr t ht;omega⟩
theorem RowsW.snoc {L n:Nat} {R:List (List Int)} (w:RowsW L n R):RowsW L n (R++[List.replicate L (-1)]):=by
 refine ⟨fun r hr=>?_,fun r hr t ht=>?_⟩
 ·rcases List.mem_append.1 hr with h | h
  ·exact w.len r h
  ·simp at h;rw [h];simp
 ·rcases List.mem_append.1 hr with h | h
  ·exact w.bd r h t ht
  ·simp at h;rw [h] at ht;rw [List.eq_of_mem_replicate ht];omega
section
variable {κ:Type} [DecidableEq κ] {next:κ->Nat->Option κ} {L:Nat}
theorem addU_w {n k:Nat} {t:κ} {s:BS κ} (w:RunW L s):RunW L (addU L n k t s):=by
 by_cases h:t∈s.w
 ·rw [addU_old L h]
  have:=List.idxOf_lt_length_of_mem h
  exact ⟨w.rows.put _ _ (by unfold idxK;omega),by rw [setRC_length];exact w.len⟩
 ·rw [addU_new L h]
  refine ⟨?_,by rw [setRC_length];simp [w.len]⟩
  simp only [List.length_append,List.length_singleton]
  exact ((w.rows.more (Nat.le_succ _)).snoc).put _ _ (by omega)
theorem stepU_w {n k:Nat} {s:BS κ} (w:RunW L s):RunW L (stepU next L n s k):=by
 unfold stepU
 split
 ·exact w
 ·split
  ·exact w
  ·exact addU_w w
theorem rowU_w {n:Nat}:∀ (ks:List Nat) {s:BS κ},RunW L s->RunW L (rowU next L n ks s)
 | [],_,w=>w
 | k :: ks,s,w=>by rw [rowU_cons];exact rowU_w ks (stepU_w w)
theorem runU_w:∀ (F n:Nat) {s:BS κ},RunW L s->RunW L (runU next L F n s)
 | 0,_,_,w=>w
 | F+1,n,s,w=>by
  unfold runU
  split
  ·exact runU_w F (n+1) (rowU_w _ w)
  ·exact w
theorem begU_w (L:Nat) (c:κ):RunW L (begU L c):=have _i:=‹DecidableEq κ›;⟨⟨by simp [begU],by simp [begU]⟩,rfl⟩
theorem runU_pos:∀ (F n:Nat) {s:BS κ},0 < s.w.length->0 < (runU next L F n s).w.length
 | 0,_,_,h=>h
 | F+1,n,s,h=>by
  unfold runU
  split
  ·exact runU_pos F (n+1) (Nat.lt_of_lt_of_le h (rowU_mono n _ s).2)
  ·exact h
end
theorem detR_w (A:PAlpha) (X:PAuto):RunW A.letters.length (detR A X):=runU_w _ _ (begU_w _ _)
theorem detR_ne (A:PAlpha) (X:PAuto):(detR A X).R≠[]:=by
 have h:0 < (detR A X).w.length:=runU_pos _ _ (by simp [begU])
 intro e
 have:=(detR_w A X).len
 rw [e] at this;simp at this;omega
theorem detR_bd (A:PAlpha) (X:PAuto):∀ r∈(detR A X).R,∀ t∈r,t < ((detR A X).R.length:Int):=fun r hr t ht=>by
 rw [(detR_w A X).len];exact ((detR_w A X).rows.bd r hr t ht).2
theorem detR_cap {A:PAlpha} {X:PAuto} (h:capOk (detR A X)=true):(detR A X).R.length<=4096:=by
 rw [(detR_w A X).len]
 unfold capOk at h
 simp at h
 exact h.2
abbrev PAlpha.sy (A:PAlpha):List Int:=A.letters.map PLetter.rune
noncomputable def minY (A:PAlpha) (X:PAuto):PAuto:=leastX (detR A X).R (detE A X) A.sy
theorem minY_w (A:PAlpha) (X:PAuto):LeastW (detR A X).R.length A.sy (minY A X):=leastX_w (detR_ne A X) (detR_bd A X)
theorem minY_st {A:PAlpha} {X:PAuto} (h:capOk (detR A X)=true):1<=(minY A X).states.toNat/\(minY A X).states.toNat<=4096/\((minY A X).states.toNat:Int)=(minY A X).states:=by
 have:=(minY_w A X).st;have:=detR_cap h;omega
end Go.Ab.Z
namespace Go.Ab.Z
open Go Go.Ab
variable {h h':AHeap} {k:Post} {fe le en mo:AVal} {A:PAlpha} {X:PAuto}
theorem Hx.hle' {h₀:AHeap} {own:List Nat} (x:Hx own h h') (l:Hle h₀ h) (w:WF h₀) (ho:∀ j∈own,h₀.next<=j):Hle h₀ h' :=
 ⟨Nat.le_trans l.next x.next,fun j y e=>x.get j (fun hj=>by have:=ho j hj;have:=w.lt e;omega) y (l.get j y e)⟩
def preE (Y:PAuto) (n:Nat):List Bool:=(List.range n).map fun n:Nat=>decide ((n:Int)∈Y.ends)
theorem preE_succ (Y:PAuto) (n:Nat):preE Y (n+1)=preE Y n++[decide ((n:Int)∈Y.ends)]:=by simp [preE,List.range_succ]
theorem blankR_succ (L n:Nat):blankR L (n+1)=blankR L n++[List.replicate L (-1)]:=List.replicate_succ'
theorem Mach.put {m L:Nat} {own:List Nat} {R:List (List Int)} {E:List Bool} (M:Mach h m fe le L R E own) (w:WF h) {n c:Nat} (hn:n < R.length) (hc:c < L) (x:Int) :
  ∃ (tv:AVal) (b:Nat) (h2:AHeap),h.read1 m 2=some tv/\indexAddrS 1 tv (.int .i64 (n:Int))=some (.ptr (rowB tv) n)/\h.read1 (rowB tv) n=some (rowS L b)/\indexAddrS 1 (rowS L b) (.int .i64 (c:Int))=some (.ptr b c)/\h.write b c [.int .i64 x]=some h2 /\
   But b h h2/\b∈own/\WF h2/\Mach h2 m fe le L (setRC R n c x) E own:=by
 obtain ⟨tv,ev,rb,eo,N⟩:=M
 obtain ⟨b,h2,i1,i2,i3,i4,bt,bo,bl,N2⟩:=N.put w hn hc x
 rw [<-eo] at bo
 exact ⟨tv,b,h2,N.box.rd1 (i:=2) (c:=tv) rfl,i1,i2,i3,i4,bt,bo,bt.wf w bl,⟨tv,ev,rb,eo,N2⟩⟩
theorem f85 (hA:IsAlpha h fe le A) (hX:IsAuto h en mo X) (ha:AlphaOk A) (hx:AutoOk A X)
  (H1:capOk (detR A X)=true->∀ h' m own,WF h'->Hle h h'->Mach h' m fe le A.letters.length (reR A.letters (minY A X)) (reE (minY A X)) own->(∀ j∈own,h.next<=j)->k (.tup [.ptr m 0,.int .i64 0]) h')
  (H0:¬ capOk (detR A X)=true->∀ h',WF h'->Hle h h'->k (.tup [.nilp,.int .i64 9]) h'):Cf 85 [.agg [fe,le],aV X.states en mo] h k:=by
 refine use_code compiled85 fun hw=>?_
 have hL1:=ha.1.2.1
 have hL:=ha.1.2.2
 have w1:=hw.newCells [fe,le]
 have le1:=Hle.newCells hw [fe,le]
 have w2:=w1.newCells [.int .i64 X.states,en,mo]
 have le2:=Hle.newCells w1 [.int .i64 X.states,en,mo]
 have va:=(Blk.new h [fe,le]).mono le2
 have vx:=Blk.new (h.newCells [fe,le]) [.int .i64 X.states,en,mo]
 have rda:=va.rd (off:=0) (n:=2) (l:=[fe,le]) (by simp) rfl
 have rdx:=vx.rd (off:=0) (n:=3) (l:=[.int .i64 X.states,en,mo]) (by simp) rfl
 simp only [next_newCells] at vx rdx
 have leh:=le1.trans le2
 simp [fn85,aV,rda,rdx,-List.reduceReplicate]
 refine f83 (hA.mono leh) (hX.mono leh) ha hx (fun cok h3 m0 own0 w3 le3 M0 ho0=>?_) (fun cok h3 w3 le3=>?_)
 rotate_left
 ·simp
  exact fun w=>H0 cok h3 w (leh.trans le3)
 simp
 refine f59 M0 (hA.mono (leh.trans le3)) (detR_ne A X) (detR_bd A X) (by have:=detR_cap cok;omega) hL fun h4 ye ym w4 le4 hY oY=>?_
 rw [show leastX (detR A X).R (detE A X) (A.letters.map PLetter.rune)=minY A X from rfl] at hY oY ⊢
 have leA:=leh.trans (le3.trans le4)
 obtain ⟨s1,s2,s3⟩:=minY_st cok
 have W:=minY_w A X
 generalize hst:(minY A X).states.toNat=st at *
 have va4:=va.mono (le3.trans le4)
 have w5:=w4.newCells [.int .i64 0,.nils,.nils]
 have le5:=Hle.newCells w4 [.int .i64 0,.nils,.nils]
 obtain ⟨h6,a1,a2,a3⟩:=(Blk.new h4 [.int .i64 0,.nils,.nils]).write (off:=0) (vs:=[.int .i64 st,ye,ym]) (by simp) (one3 rfl oY.oe.one oY.om.one)
 have le6:=a3.hle le5 w4 (Nat.le_refl _)
 have w6:=a3.wf w5 (by simp)
 have a2:Blk h6 h4.next [.int .i64 st,ye,ym]:=by simpa using a2
 have va6:=va4.mono le6
 have r1:=va6.rd (off:=0) (n:=2) (l:=[fe,le]) (by simp) rfl
 rw [<-s3]
 simp [aV,a1,r1,-List.reduceReplicate]
 refine f70 (hA.mono (leA.trans le6)) ha.2.2.2 fun h7 rb rm w7 le7 hrb mr hr=>?_
 have r2:=(va6.mono le7).rd (off:=0) (n:=2) (l:=[fe,le]) (by simp) rfl
 have vy:=a2.mono le7
 have w8:=w7.newCells [fe,le,.nils,.nils]
 have le8:=Hle.newCells w7 [fe,le,.nils,.nils]
 have M8:=mach_new w7 fe le A.letters.length
 have y0:=(vy.mono le8).rd1 (i:=0) (c:=.int .i64 st) rfl
 have leB:=(leA.trans le6).trans le7
 have hY7:=hY.mono (le6.trans le7)
 simp [r2,listPut,y0,-List.reduceReplicate]
 rw [L85_1]
 refine loop_by (σ:=Nat) (fun n h'=>n<=st/\WF h'/\Hle h7 h'/\∃ own,Mach h' h7.next fe le A.letters.length (blankR A.letters.length n) (preE (minY A X) n) own/\∀ j∈own,h7.next<=j)
  (fun n=>[(8,.ptr h4.next 0),(9,.map rb),(10,.ptr h7.next 0),(32,.int .i64 st),(33,.int .i64 n)]) (fun n=>st - n) 0 (by simp) ?_ ?_
 ·exact ⟨Nat.zero_le _,w8,le8,_,M8,fun j hj=>by simp at hj;omega⟩
 clear M8 w8 le8 y0 a1 r1 r2 w5 le5 a3
 rintro n h9 K ⟨hn,w9,le9,own,M,ho⟩ hK
 simp
 refine ap_split (fun hc=>?_) (fun hc=>?_)
 ·have hc:n < st:=by omega
  have y1:=(vy.mono le9).rd1 (i:=1) (c:=ye) rfl
  have wr:wrapF .i64 ((n:Int)+1)=(n:Int)+1:=wrap64 (by omega) (by omega)
  have en1:=hY7.en.mono le9
  simp [y1]
  refine f140 en1 hY.ne W.en.1 fun i w=>?_
  simp
  refine f71 M (hA.mono (leB.trans le9)) rfl hL1 hL (by simp [blankR];omega) _ fun h10 own' w10 N ho' hx10=>?_
  have le10:=hx10.hle' le9 w7 ho
  simp [wr]
  refine hK (n+1) _ _ (by omega) (by simp) ⟨by omega,w10,le10,own',?_,fun j hj=>?_⟩
  ·rw [blankR_succ,preE_succ];exact N
  ·rcases ho' j hj with h1 | h1
   ·exact ho j h1
   ·have:=le9.next;omega
 ·have:n=st:=by omega
  subst this
  have y2:=(vy.mono le9).rd1 (i:=2) (c:=ym) rfl
  have ml:=hY.mo.len
  simp only [List.length_map] at ml
  simp [y2,ml]
  rw [L85_2]
  have ee:preE (minY A X) n=reE (minY A X):=by unfold reE;rw [hst];rfl
  rw [ee] at M
  have mm:=hY.nm
  refine loop_by (σ:=Nat) (fun i h'=>i<=(minY A X).moves.length/\WF h'/\Hle h7 h'/\Mach h' h7.next fe le A.letters.length (((minY A X).moves.take i).foldl (putM A.letters) (blankR A.letters.length n)) (reE (minY A X)) own)
   (fun i=>[(9,.map rb),(10,.ptr h7.next 0),(48,ym),(49,.int .i64 (minY A X).moves.length),(50,.int .i64 i)]) (fun i=>(minY A X).moves.length - i) 0 (by simp) ?_ ?_
  ·exact ⟨Nat.zero_le _,w9,le9,M⟩
  clear M w9 le9 y2 hK K h9
  rintro i h9 K ⟨hi,w9,le9,M⟩ hK
  simp
  refine ap_split (fun hq=>?_) (fun hq=>?_)
  ·have hq:i < (minY A X).moves.length:=by omega
   obtain ⟨i1,i2,i3,i4,i5⟩:=W.mo _ (List.getElem_mem hq)
   have b1:=hY.mo.idx (i:=i) (by simpa using hq) .i64
   have b2:=(hY7.mo.mono le9).rd (i:=i) (l:=(minY A X).moves[i].cells) (by simp [hq])
   have e0:((minY A X).moves.take (i+1)).foldl (putM A.letters) (blankR A.letters.length n)=putM A.letters (((minY A X).moves.take i).foldl (putM A.letters) (blankR A.letters.length n)) (minY A X).moves[i]:=by
    rw [List.take_succ_eq_append_getElem hq,List.foldl_append];rfl
   generalize (minY A X).moves[i]=mv at *
   have w10:=w9.newCells [.int .i64 0,.int .i64 0,.int .i32 0]
   have le10:=Hle.newCells w9 [.int .i64 0,.int .i64 0,.int .i32 0]
   obtain ⟨h11,c1,c2,c3⟩:=(Blk.new h9 [.int .i64 0,.int .i64 0,.int .i32 0]).write (off:=0) (vs:=mv.cells) (by simp) rfl
   have le11:=c3.hle le10 w9 (Nat.le_refl _)
   have w11:=c3.wf w10 (by simp)
   have c2:Blk h11 h9.next mv.cells:=by simpa using c2
   have d0:=c2.rd1 (i:=0) (c:=.int .i64 mv.src) rfl
   have d1:=c2.rd1 (i:=1) (c:=.int .i64 mv.dst) rfl
   have d2:=c2.rd1 (i:=2) (c:=.int .i32 mv.rune) rfl
   have c1:(h9.newCells [.int .i64 0,.int .i64 0,.int .i32 0]).write h9.next 0 [.int .i64 mv.src,.int .i64 mv.dst,.int .i32 mv.rune]=some h11:=c1
   have lk:=(mr.mono (le9.trans le11)).lookup (kd21 Int vI) mv.rune (.int .i64 0) false
   obtain ⟨c,hcl,hcr⟩:∃ c:Nat,c < A.letters.length/\number A.letters mv.rune 0=(c:Int):=by
    have h1:number A.letters mv.rune 0≠-1:=fun e=>(number_neg A.letters mv.rune 0).1 e i5
    rcases number_ge A.letters mv.rune 0 with h2 | h2
    ·exact absurd h2 h1
    ·exact ⟨(number A.letters mv.rune 0).toNat,by omega,by omega⟩
   have rk:rankOf A.letters mv.rune=some (c:Int):=by unfold rankOf;rw [hcr,if_neg (by omega)]
   rw [hr,rk] at lk
   have lk:lookupA ⟨21,false,[.int .i32]⟩ (.int .i64 0) false (.map rb) (.int .i32 mv.rune) h11=some (.int .i64 (c:Int)):=lk
   obtain ⟨src,hsrc⟩:=Int.eq_ofNat_of_zero_le i1
   obtain ⟨tv,b,h12,y1,y2,y3,y4,y5,y6,y7,w12,M12⟩:=(M.mono le11).put w11 (n:=src) (c:=c) (by rw [foldM_length];simp [blankR];omega) hcl mv.dst
   have wr:wrapF .i64 ((i:Int)+1)=(i:Int)+1:=wrap64 (by omega) (by omega)
   have b2:h9.read (rowB ym) (rowO ym+i*3) 3=some [.int .i64 mv.src,.int .i64 mv.dst,.int .i32 mv.rune]:=b2
   rw [hsrc] at d0 c1 b2
   simp [b1,b2,c1,d0,d1,d2,nilCheckA,y1,y2,y3,lk,y4,y5,wr]
   refine hK (i+1) _ _ (by omega) (by simp) ⟨by omega,w12,y6.hle (le9.trans le11) w7 (ho b y7),?_⟩
   rw [e0]
   unfold putM rankN
   rw [hsrc,hcr]
   exact M12
  ·have:i=(minY A X).moves.length:=by omega
   subst this
   rw [List.take_length] at M
   simp
   intro w
   have nB:=leB.next
   refine H1 cok h9 h7.next own w (leB.trans le9) ?_ fun j hj=>by have:=ho j hj;omega
   unfold reR
   rw [hst];exact M
end Go.Ab.Z
namespace Go.Ab.Z
open Go Go.Ab
variable {h h':AHeap} {k:Post} {fe le en mo:AVal} {A:PAlpha} {X:PAuto} {R R':List (List Int)} {E E':List Bool}
def MachV (h:AHeap) (m:Nat) (R:List (List Int)) (E:List Bool):Prop:=∃ fe le tv ev,Blk h m [fe,le,tv,ev]/\IsRows h tv R/\Row1 h ev (E.map .bool)
theorem MachV.mono {m:Nat} (v:MachV h m R E) (l:Hle h h'):MachV h' m R E:=by obtain ⟨fe,le,tv,ev,b,r,e⟩:=v;exact ⟨fe,le,tv,ev,b.mono l,r.mono l,e.mono l⟩
theorem Mach.view {m L:Nat} {own:List Nat} (M:Mach h m fe le L R E own):MachV h m R E:=by
 obtain ⟨tv,ev,rb,_,N⟩:=M
 exact ⟨fe,le,tv,ev,N.box,N.rowsI,N.en.row1⟩
theorem f50 {m:Nat} (v:MachV h m R E) {s:Int} (hs:-1<=s/\s < (E.length:Int)) (H:WF h->k (.bool (endG E s)) h):Cf 50 [.ptr m 0,.int .i64 s] h k:=by
 refine use_code compiled50 fun hw=>?_
 obtain ⟨fe,le,tv,ev,b,r,e⟩:=v
 by_cases hp:s < 0
 ·have d1:decide (s < 0)=true:=decide_eq_true hp
  have:endG E s=false:=by unfold endG;simp;omega
  rw [this] at H
  simp [fn50]
  simp only [d1]
  simp
  exact H
 ·have d1:decide (s < 0)=false:=decide_eq_false hp
  obtain ⟨n,rfl⟩:=Int.eq_ofNat_of_zero_le (by omega:0<=s)
  have hn:n < E.length:=by omega
  have r1:=b.rd1 (i:=3) (c:=ev) rfl
  have a1:=e.idx (i:=n) (by simpa using hn) .i64
  have a2:=e.rd (i:=n) (c:=.bool E[n]) (by simp [hn])
  have:endG E (n:Int)=E[n]:=by
   unfold endG
   rw [decide_eq_true (by omega),Bool.true_and,Int.toNat_natCast,List.getD_eq_getElem?_getD,List.getElem?_eq_getElem hn];rfl
  rw [this] at H
  simp [fn50]
  simp only [d1]
  simp [nilCheckA,r1,a1,a2]
  exact H
theorem f52 {m:Nat} (v:MachV h m R E) {s:Int} {c L:Nat} (hs:-1<=s/\s < (R.length:Int)) (hL:∀ r∈R,r.length=L) (hc:c < L) (H:WF h->k (.int .i64 (stepG R s c)) h):Cf 52 [.ptr m 0,.int .i64 s,.int .i64 (c:Int)] h k:=by
 refine use_code compiled52 fun hw=>?_
 obtain ⟨fe,le,tv,ev,b,r,e⟩:=v
 unfold stepG at H
 simp [fn52]
 refine ap_split (fun hp=>?_) (fun hp=>?_)
 ·rw [if_pos hp] at H
  simp
  exact H
 ·rw [if_neg hp] at H
  obtain ⟨n,rfl⟩:=Int.eq_ofNat_of_zero_le (by omega:0<=s)
  have hn:n < R.length:=by omega
  have hrl:=hL _ (List.getElem_mem hn)
  have r1:=b.rd1 (i:=2) (c:=tv) rfl
  obtain ⟨x,a1,a2,a3⟩:=r.get hn
  have a4:=a3.idx (i:=c) (by simpa [hrl] using hc) .i64
  have a5:=a3.rd (i:=c) (c:=vI (R[n][c]'(by omega))) (by simp;exact ⟨_,List.getElem?_eq_getElem (by omega),rfl⟩)
  rw [Int.toNat_natCast,List.getD_eq_getElem?_getD,List.getD_eq_getElem?_getD,List.getElem?_eq_getElem hn] at H
  simp only [Option.getD_some] at H
  rw [List.getElem?_eq_getElem (by omega)] at H
  simp [nilCheckA,r1,a1,a2,a4,a5,vI]
  exact H
def FitOk (fid:Nat) (fit:Bool->Bool->Bool):Prop:=∀ (p q:Bool) (h:AHeap) (k:Post),(WF h->k (.bool (fit p q)) h)->Cf fid [.bool p,.bool q] h k
theorem fit46:FitOk 46 (fun p q=>p && q):=fun p q h k H=>f46 p q H
theorem fit48:FitOk 48 (fun p q=>p || q):=fun p q h k H=>f48 p q H
def e2 (p:Int×Int):List AVal:=[.int .i64 p.1,.int .i64 p.2]
def InP (n m:Nat) (p:Int×Int):Prop:=(-1<=p.1/\p.1 < (n:Int))/\(-1<=p.2/\p.2 < (m:Int))
def endP (fit:Bool->Bool->Bool) (E E':List Bool) (p:Int×Int):Bool:=fit (endG E p.1) (endG E' p.2)
def stepP (R R':List (List Int)) (p:Int×Int) (c:Nat):Int×Int:=(stepG R p.1 c,stepG R' p.2 c)
structure Joins (h:AHeap) (fid:Nat) (bf bm bn m n:Nat) (R R':List (List Int)) (E E':List Bool):Prop where
 bf:Blk h bf [.func fid [] []]
 bm:Blk h bm [.ptr m 0]
 bn:Blk h bn [.ptr n 0]
 vm:MachV h m R E
 vn:MachV h n R' E'
theorem Joins.mono {fid bf bm bn m n:Nat} (j:Joins h fid bf bm bn m n R R' E E') (l:Hle h h'):Joins h' fid bf bm bn m n R R' E E':=⟨j.1.mono l,j.2.mono l,j.3.mono l,j.4.mono l,j.5.mono l⟩
@[simp] theorem sameV_func (f:Nat):sameV (.func f [] []) (.func f [] [])=true:=by simp [sameV,same1]
theorem f103 {fid bf bm bn m n:Nat} {fit:Bool->Bool->Bool} (hf:FitOk fid fit) (j:Joins h fid bf bm bn m n R R' E E') {p:Int×Int} (hp:InP E.length E'.length p)
  (H:∀ h',WF h'->Hle h h'->k (.bool (endP fit E E' p)) h'):Cf 103 [.agg (e2 p),.ptr bf 0,.ptr bm 0,.ptr bn 0] h k:=by
 refine use_code compiled103 fun hw=>?_
 have w1:=hw.newCells (e2 p)
 have le1:=Hle.newCells hw (e2 p)
 have j1:=j.mono le1
 have b:=Blk.new h (e2 p)
 have r0:=b.rd1 (i:=0) (c:=.int .i64 p.1) rfl
 have r1:=b.rd1 (i:=1) (c:=.int .i64 p.2) rfl
 have rf:=j1.bf.rd1 (i:=0) (c:=.func fid [] []) rfl
 have rm:=j1.bm.rd1 (i:=0) (c:=.ptr m 0) rfl
 have rn:=j1.bn.rd1 (i:=0) (c:=.ptr n 0) rfl
 simp [fn103,rf,rm,rn,indexAddrA,r0,r1]
 refine f50 j1.vm hp.1 fun w=>?_
 simp [r1,rn,rf,sameV,same1]
 refine f50 j1.vn hp.2 fun w=>?_
 simp [rf,sameV,same1]
 refine hf _ _ _ _ fun w=>?_
 simp
 exact fun w=>H _ w le1
theorem f105 {fid bf bm bn m n L c:Nat} {fit:Bool->Bool->Bool} (hf:FitOk fid fit) (j:Joins h fid bf bm bn m n R R' E E') {p:Int×Int} (hp:InP R.length R'.length p) (hL:∀ r∈R,r.length=L) (hL':∀ r∈R',r.length=L) (hc:c < L)
  (H:∀ h',WF h'->Hle h h'->k (.tup [.agg (e2 (stepP R R' p c)),.bool (fit (decide (0<=(stepP R R' p c).1)) (decide (0<=(stepP R R' p c).2)))]) h'):Cf 105 [.agg (e2 p),.int .i64 (c:Int),.ptr bm 0,.ptr bn 0,.ptr bf 0] h k:=by
 refine use_code compiled105 fun hw=>?_
 have w1:=hw.newCells (e2 p)
 have le1:=Hle.newCells hw (e2 p)
 have w2:=w1.newCells [.int .i64 0,.int .i64 0]
 have le2:=Hle.newCells w1 [.int .i64 0,.int .i64 0]
 have j2:=j.mono (le1.trans le2)
 have b:=(Blk.new h (e2 p)).mono le2
 have r0:=b.rd1 (i:=0) (c:=.int .i64 p.1) rfl
 have r1:=b.rd1 (i:=1) (c:=.int .i64 p.2) rfl
 have rm:=j2.bm.rd1 (i:=0) (c:=.ptr m 0) rfl
 have rn:=j2.bn.rd1 (i:=0) (c:=.ptr n 0) rfl
 simp [fn105,rm,rn,indexAddrA,r0,r1]
 refine f52 j2.vm hp.1 hL hc fun w=>?_
 simp [r1,rn,sameV,same1]
 refine f52 j2.vn hp.2 hL' hc fun w=>?_
 generalize hg:(h.newCells (e2 p)).newCells [.int .i64 0,.int .i64 0]=g at *
 have gn:g.next=h.next+2:=by rw [<-hg];simp
 have v7:Blk g (h.next+1) [.int .i64 0,.int .i64 0]:=by
  have:=Blk.new (h.newCells (e2 p)) [.int .i64 0,.int .i64 0]
  rw [hg] at this;simpa using this
 generalize hq:stepP R R' p c=q at *
 have hq1:stepG R p.1 c=q.1:=by rw [<-hq];rfl
 have hq2:stepG R' p.2 c=q.2:=by rw [<-hq];rfl
 rw [hq1,hq2]
 have w3:=w2.newCells [.int .i64 0,.int .i64 0]
 have le3:=Hle.newCells w2 [.int .i64 0,.int .i64 0]
 obtain ⟨h4,a1,a2,a3⟩:=(Blk.new g [.int .i64 0,.int .i64 0]).write (off:=0) (vs:=e2 q) (by simp [e2]) rfl
 have le4:=a3.hle le3 w2 (Nat.le_refl _)
 have w4:=a3.wf w3 (by simp)
 have a2:Blk h4 g.next (e2 q):=by simpa [e2] using a2
 have a1:(g.newCells [.int .i64 0,.int .i64 0]).write g.next 0 [.int .i64 q.1,.int .i64 q.2]=some h4:=a1
 have s1:=(b.mono le3).rd1 (i:=1) (c:=.int .i64 p.2) rfl
 have s0:=(b.mono le3).rd1 (i:=0) (c:=.int .i64 p.1) rfl
 have sm:=(j2.bm.mono le3).rd1 (i:=0) (c:=.ptr m 0) rfl
 have sn:=(j2.bn.mono le3).rd1 (i:=0) (c:=.ptr n 0) rfl
 have t0:=a2.rd1 (i:=0) (c:=.int .i64 q.1) rfl
 have t1:=a2.rd1 (i:=1) (c:=.int .i64 q.2) rfl
 have t2:=a2.rd (off:=0) (n:=2) (l:=e2 q) (by simp [e2]) rfl
 have tf:=(j2.bf.mono le4).rd1 (i:=0) (c:=.func fid [] []) rfl
 simp only [e2] at t2
 have nd:∀ x:Int,(!decide (x < 0))=decide (0<=x):=fun x=>by rw [Bool.eq_iff_iff];simp
 simp [listPut,s0,s1,sm,sn,sameV,same1,a1,t0,t1,t2,tf,indexAddrA,nd]
 refine hf _ _ _ _ fun w=>?_
 obtain ⟨h5,c1,c2,c3⟩:=(v7.mono le4).write (off:=0) (vs:=e2 q) (by simp [e2]) rfl
 have c2:Blk h5 (h.next+1) (e2 q):=by simpa [e2] using c2
 have u2:=c2.rd (off:=0) (n:=2) (l:=e2 q) (by simp [e2]) rfl
 simp only [e2] at u2 c1
 simp [t2,sameV,sameL,same1,c1,u2]
 intro w
 have le5:Hle h h5:=c3.hle ((le1.trans le2).trans le4) hw (by omega)
 refine kcast (H h5 w le5) ?_
 rfl
end Go.Ab.Z
namespace Go.Ab.Z
open Go Go.Ab
variable {h h':AHeap} {fe le:AVal} {R:List (List Int)} {E:List Bool}
abbrev K2:Type:=Int×Int
def K76:KeyT:=⟨76,true,[.int .i64,.int .i64]⟩
def e76 (p:K2):AVal:=.agg (e2 p)
theorem kd76:Kd K2 Int K76 e76 vI:=⟨fun _=>rfl,rfl,fun a b=>by
 show bi (eqI a.1 b.1) (bi (eqI a.2 b.2) true false) false=_
 rw [Bool.eq_iff_iff]
 simp only [eqI_eq,bi_eq]
 cases a;cases b
 simp⟩
def cellsP (w:List K2):List AVal:=(w.map e2).flatten
structure MemP (h₀ h:AHeap) (fe le:AVal) (L m mb:Nat) (wv:AVal) (own:List Nat) (w:List K2) (mp:List (K2×Int)) (R:List (List Int)) (E:List Bool):Prop where
 wf:WF h
 hle:Hle h₀ h
 map:MapOf K76 e76 vI h mb mp
 work:ORow h 2 wv w.length (cellsP w)
 mach:Mach h m fe le L R E own
 gm:h₀.next<=mb/\mb∉own
 gw:∀ j∈blkOf wv,h₀.next<=j/\j≠mb/\j∉own
 go:∀ j∈own,h₀.next<=j
section
variable {h₀:AHeap} {L m mb:Nat} {wv:AVal} {own:List Nat} {w:List K2} {mp:List (K2×Int)}
theorem MemP.mono (M:MemP h₀ h fe le L m mb wv own w mp R E) (w':WF h') (l:Hle h h'):MemP h₀ h' fe le L m mb wv own w mp R E :=
 ⟨w',M.hle.trans l,M.map.mono l,M.work.mono l,M.mach.mono l,M.gm,M.gw,M.go⟩
theorem MemP.upd (M:MemP h₀ h fe le L m mb wv own w mp R E) (w₀:WF h₀) (a:K2) (x:Int) :
  ∃ h2,updateA K76 (.map mb) (e76 a) (.int .i64 x) h=some (none,h2)/\MemP h₀ h2 fe le L m mb wv own w (aput mp a x) R E/\But mb h h2:=by
 obtain ⟨h2,a1,a2,a3⟩:=M.map.update kd76 a x
 exact ⟨h2,a1,⟨a3.wf M.wf (M.map.lt M.wf),a3.hle M.hle w₀ M.gm.1,a2,own_kp M.work fun j hj=>But.kp a3 (M.gw j hj).2.1,M.mach.kp fun j hj=>But.kp a3 fun e=>M.gm.2 (e ▸ hj),M.gm,M.gw,M.go⟩,a3⟩
theorem MemP.pushW (M:MemP h₀ h fe le L m mb wv own w mp R E) (w₀:WF h₀) (a:K2) (hn:w.length < 1048576) :
  ∃ h2,appendA (h.newCells (e2 a)) 2 wv (.slice h.next 0 1 1 2)=some (some (.slice (h.next+1) 0 (w.length+1) (w.length+1) 2),h2)/\MemP h₀ h2 fe le L m mb (.slice (h.next+1) 0 (w.length+1) (w.length+1) 2) own (w++[a]) mp R E:=by
 obtain ⟨h2,a1,a2,a3,a4,kp⟩:=orow_push M.work M.wf (e2 a) rfl (by omega) rfl
 have hge:=M.hle.next
 have l1:=M.map.lt M.wf
 have l2:=M.mach.lt M.wf
 refine ⟨h2,a1,a3,⟨by omega,fun j x e=>kp j (fun hj=>?_) x (M.hle.get j x e)⟩,MapOf.kp' M.map (kp _ fun hj=>(M.gw _ hj).2.1 rfl),?_,M.mach.kp fun j hj=>kp j fun hj'=>(M.gw j hj').2.2 hj,M.gm,fun j hj=>?_,M.go⟩
 ·have:=(M.gw j hj).1;have:=w₀.lt e;omega
 ·rw [List.length_append,List.length_singleton,cellsP,List.map_append,List.flatten_append]
  have:(List.map e2 [a]).flatten=e2 a:=by simp
  rw [this];exact a2
 ·simp [blkOf] at hj;subst hj
  exact ⟨by omega,by omega,fun hj=>by have:=l2 _ hj;omega⟩
theorem MemP.add (M:MemP h₀ h fe le L m mb wv own w mp R E) (w₀:WF h₀) {own':List Nat} {R':List (List Int)} {E':List Bool} (w':WF h') (N:Mach h' m fe le L R' E' own') (ho:∀ j∈own',j∈own\/h.next<=j) (x:Hx own h h'):MemP h₀ h' fe le L m mb wv own' w mp R' E':=by
 have hge:=M.hle.next
 have l1:=M.map.lt M.wf
 refine ⟨w',⟨Nat.le_trans hge x.next,fun j y e=>x.get j (fun hj=>?_) y (M.hle.get j y e)⟩,MapOf.kp' M.map (x.get _ M.gm.2),own_kp M.work fun j hj=>x.get j (M.gw j hj).2.2,N,⟨M.gm.1,fun hj=>?_⟩,fun j hj=>⟨(M.gw j hj).1,(M.gw j hj).2.1,fun hj'=>?_⟩,fun j hj=>?_⟩
 ·have:=M.go j hj;have:=w₀.lt e;omega
 ·rcases ho _ hj with h1 | h1
  ·exact M.gm.2 h1
  ·omega
 ·rcases ho _ hj' with h1 | h1
  ·exact (M.gw j hj).2.2 h1
  ·have:=own_lt M.work M.wf j hj;omega
 ·rcases ho _ hj with h1 | h1
  ·exact M.go j h1
  ·omega
theorem MemP.put (M:MemP h₀ h fe le L m mb wv own w mp R E) (w₀:WF h₀) {n c:Nat} (hn:n < R.length) (hc:c < L) (x:Int) :
  ∃ (tv:AVal) (b:Nat) (h2:AHeap),h.read1 m 2=some tv/\indexAddrS 1 tv (.int .i64 (n:Int))=some (.ptr (rowB tv) n)/\h.read1 (rowB tv) n=some (rowS L b)/\indexAddrS 1 (rowS L b) (.int .i64 (c:Int))=some (.ptr b c)/\h.write b c [.int .i64 x]=some h2 /\
   MemP h₀ h2 fe le L m mb wv own w mp (setRC R n c x) E:=by
 obtain ⟨tv,ev,rb,eo,N⟩:=M.mach
 obtain ⟨b,h2,i1,i2,i3,i4,bt,bo,bl,N2⟩:=N.put M.wf hn hc x
 rw [<-eo] at bo
 exact ⟨tv,b,h2,N.box.rd1 (i:=2) (c:=tv) rfl,i1,i2,i3,i4,bt.wf M.wf bl,bt.hle M.hle w₀ (M.go b bo),MapOf.kp' M.map (But.kp bt fun e=>M.gm.2 (e ▸ bo)),own_kp M.work fun j hj=>But.kp bt fun e=>(M.gw j hj).2.2 (e ▸ bo),⟨tv,ev,rb,eo,N2⟩,M.gm,M.gw,M.go⟩
theorem MemP.at (M:MemP h₀ h fe le L m mb wv own w mp R E) {n:Nat} (hn:n < w.length):indexAddrS 2 wv (.int .i64 (n:Int))=some (.ptr (rowB wv) (n*2))/\h.read (rowB wv) (n*2) 2=some (e2 w[n]):=by
 have r:Row h 2 wv (w.map e2):=M.work.row (by intro l hl;obtain ⟨s,_,rfl⟩:=List.mem_map.1 hl;rfl) (by simp) rfl
 have i1:=M.work.idx hn .i64
 have rd:=r.rd (i:=n) (l:=e2 w[n]) (by simp [hn])
 have ro:rowO wv=0:=by
  obtain ⟨_,⟨rfl,_⟩ | ⟨b,cap,rest,rfl,_⟩⟩:=M.work<;>rfl
 rw [ro,Nat.zero_add] at rd
 exact ⟨i1,rd⟩
end
end Go.Ab.Z
namespace Go.Ab.Z
open Go Go.Ab
variable {h h':AHeap} {k:Post} {fe le en mo:AVal} {A:PAlpha}
theorem MemP.but {R:List (List Int)} {E:List Bool} {b:Nat} {h₀:AHeap} {L m mb:Nat} {wv:AVal} {own:List Nat} {w:List K2} {mp:List (K2×Int)} (M:MemP h₀ h fe le L m mb wv own w mp R E) (w₀:WF h₀) (bt:But b h h') (hb:b < h.next) (h0:h₀.next<=b) (h1:b≠mb) (h2:b∉blkOf wv) (h3:b∉own):MemP h₀ h' fe le L m mb wv own w mp R E :=
 ⟨bt.wf M.wf hb,bt.hle M.hle w₀ h0,MapOf.kp' M.map (But.kp bt h1.symm),own_kp M.work fun j hj=>But.kp bt fun e=>h2 (e ▸ hj),M.mach.kp fun j hj=>But.kp bt fun e=>h3 (e ▸ hj),M.gm,M.gw,M.go⟩
theorem pair_rd {b:Nat} {p:K2} (v:Blk h b (e2 p)):h.read b 0 2=some (e2 p):=v.rd (off:=0) (n:=2) (l:=e2 p) (by simp [e2]) rfl
def nextP (fit:Bool->Bool->Bool) (R R':List (List Int)) (p:K2) (c:Nat):Option K2:=if fit (decide (0<=(stepP R R' p c).1)) (decide (0<=(stepP R R' p c).2))=true then some (stepP R R' p c) else none
theorem stepG_in {R:List (List Int)} {L n:Nat} (w:RowsW L n R) (s:Int) (c:Nat):-1<=stepG R s c/\stepG R s c < (n:Int):=by
 unfold stepG
 split
 ·omega
 ·rw [List.getD_eq_getElem?_getD,List.getD_eq_getElem?_getD]
  cases hr:R[s.toNat]? with
  | none=>simp;omega
  | some r =>
   simp only [Option.getD_some]
   cases ht:r[c]? with
   | none=>simp;omega
   | some t=>exact w.bd r (List.mem_of_getElem? hr) t (List.mem_of_getElem? ht)
theorem stepP_in {R R':List (List Int)} {L:Nat} (w:RowsW L R.length R) (w':RowsW L R'.length R') (p:K2) (c:Nat):InP R.length R'.length (stepP R R' p c):=⟨stepG_in w _ _,stepG_in w' _ _⟩
section
variable {κ:Type} [DecidableEq κ] {next:κ->Nat->Option κ} {L:Nat} {P:κ->Prop}
theorem stepU_all (hP:∀ a k b,next a k=some b->P b) {s:BS κ} (hs:∀ x∈s.w,P x) (n k:Nat):∀ x∈(stepU next L n s k).w,P x:=by
 unfold stepU
 split
 ·exact hs
 ·split
  ·exact hs
  ·rename_i c _ _ t ht
   by_cases h:t∈s.w
   ·rw [addU_old L h];exact hs
   ·rw [addU_new L h]
    intro x hx
    rcases List.mem_append.1 hx with h | h
    ·exact hs x h
    ·simp at h;rw [h];exact hP c k t ht
theorem rowU_all (hP:∀ a k b,next a k=some b->P b) (n:Nat):∀ (ks:List Nat) {s:BS κ},(∀ x∈s.w,P x)->∀ x∈(rowU next L n ks s).w,P x
 | [],_,hs=>hs
 | k :: ks,s,hs=>by rw [rowU_cons];exact rowU_all hP n ks (stepU_all hP hs n k)
end
theorem nextP_in {fit:Bool->Bool->Bool} {R R':List (List Int)} {L:Nat} (w:RowsW L R.length R) (w':RowsW L R'.length R') (a:K2) (c:Nat) (b:K2) (h:nextP fit R R' a c=some b):InP R.length R'.length b:=by
 unfold nextP at h
 split at h
 ·cases h;exact stepP_in w w' a c
 ·cases h
theorem f104 {fid bf bm bn m₁ m₂:Nat} {fit:Bool->Bool->Bool} {R₁ R₂:List (List Int)} {E₁ E₂:List Bool} (hA:IsAlpha h fe le A) (hL1:1<=A.letters.length) (hL:A.letters.length<=128) (hf:FitOk fid fit)
  (jn:Joins h fid bf bm bn m₁ m₂ R₁ R₂ E₁ E₂) (rw₁:RowsW A.letters.length R₁.length R₁) (rw₂:RowsW A.letters.length R₂.length R₂) (hE₁:E₁.length=R₁.length) (hE₂:E₂.length=R₂.length) (s0:K2) (hs0:InP R₁.length R₂.length s0)
  (H1:capOk (runU (nextP fit R₁ R₂) A.letters.length 4098 0 (begU A.letters.length s0))=true->∀ h' m own,WF h'->Hle h h' ->
   Mach h' m fe le A.letters.length (runU (nextP fit R₁ R₂) A.letters.length 4098 0 (begU A.letters.length s0)).R ((runU (nextP fit R₁ R₂) A.letters.length 4098 0 (begU A.letters.length s0)).w.map (endP fit E₁ E₂)) own->(∀ j∈own,h.next<=j)->k (.tup [.ptr m 0,.bool true]) h')
  (H0:¬ capOk (runU (nextP fit R₁ R₂) A.letters.length 4098 0 (begU A.letters.length s0))=true->∀ h',WF h'->Hle h h'->k (.tup [.nilp,.bool false]) h') :
  Cf 104 [.agg [fe,le],e76 s0,.func 103 [] [.ptr bf 0,.ptr bm 0,.ptr bn 0],.func 105 [] [.ptr bm 0,.ptr bn 0,.ptr bf 0]] h k:=by
 refine use_code compiled104 fun hw=>?_
 have w1:=hw.newCells [fe,le]
 have le1:=Hle.newCells hw [fe,le]
 have w2:=w1.newCells (e2 s0)
 have le2:=Hle.newCells w1 (e2 s0)
 have leh:=le1.trans le2
 have v4:=(Blk.new h [fe,le]).mono le2
 have v5:=Blk.new (h.newCells [fe,le]) (e2 s0)
 have rd4:=v4.rd (off:=0) (n:=2) (l:=[fe,le]) (by simp) rfl
 simp only [next_newCells] at v5
 simp [fn104,e76,-List.reduceReplicate,rd4]
 generalize hg0:(h.newCells [fe,le]).newCells (e2 s0)=g0 at *
 have gn:g0.next=h.next+2:=by rw [<-hg0];simp
 have w3:=w2.newCells [fe,le,.nils,.nils]
 have le3:=Hle.newCells w2 [fe,le,.nils,.nils]
 have M0:=mach_new w2 fe le A.letters.length
 rw [gn] at M0
 have rd5:=pair_rd v5
 have rd5':=pair_rd (v5.mono le3)
 simp [listPut,rd5,rd5',-List.reduceReplicate]
 refine f103 hf (jn.mono (leh.trans le3)) (by rw [hE₁,hE₂];exact hs0) fun g1 wg1 leg1=>?_
 have rd6:=pair_rd ((v5.mono le3).mono leg1)
 have sv:sameV (.agg (e2 s0)) (.agg (e2 s0))=true:=by simp [e2,sameV,sameL,same1]
 simp [rd6,sv,-List.reduceReplicate]
 refine f71 (M0.mono leg1) (hA.mono ((leh.trans le3).trans leg1)) rfl hL1 hL (by simp) _ fun g2 own wg2 N ho hx=>?_
 have rd7:=pair_rd (Blk.kp ((v5.mono le3).mono leg1) (hx.get _ (by simp)))
 have w4:=wg2.new (.map 76 [] 0)
 have le4:=Hle.new wg2 (.map 76 [] 0)
 have rd8:=pair_rd (Blk.mono (Blk.kp ((v5.mono le3).mono leg1) (hx.get _ (by simp))) le4)
 obtain ⟨h3,u1,u2,u3⟩:=(MapOf.new (K:=K76) (ek:=e76) (ev:=vI) g2).update kd76 s0 0
 have u1:updateA ⟨76,true,[.int .i64,.int .i64]⟩ (.map g2.next) (.agg (e2 s0)) (.int .i64 0) (g2.new (.map 76 [] 0))=some (none,h3):=u1
 have rd9:=pair_rd (Blk.kp (Blk.mono (b:=h.next+1) (Blk.kp ((v5.mono le3).mono leg1) (hx.get _ (by simp))) le4) (But.kp u3 (by have:=hx.next;have:=leg1.next;simp at this;omega)))
 have lp:listPut [.int .i64 0,.int .i64 0] 0 (e2 s0)=e2 s0:=rfl
 have sl:(e2 s0).length=2:=rfl
 simp [rd7,rd8,rd9,u1,sv,lp,sl,-List.reduceReplicate]
 have g21:=hx.next
 have g10:=leg1.next
 simp only [next_newCells] at g10
 have nx3:h3.next=g2.next+1:=by rw [u3.next];simp
 have hle2:Hle g0 g2:=⟨by omega,fun j x e=>hx.get j (fun hj=>by simp at hj;have:=w2.lt e;omega) x (leg1.get j x (le3.get j x e))⟩
 have hle3:Hle g0 h3:=u3.hle (hle2.trans le4) w2 (by omega)
 have w5:=u3.wf w4 (by simp)
 have own_lt2:=N.lt wg2
 have own_ge:∀ j∈own,g0.next<=j:=fun j hj=>by
  rcases ho j hj with h1 | h1
  ·simp at h1;omega
  ·omega
 have C0:MemP g0 (h3.newCells (e2 s0)) fe le A.letters.length (h.next+2) g2.next (.slice h3.next 0 1 1 2) own [s0] [(s0,0)] (begU A.letters.length s0).R ([s0].map (endP fit E₁ E₂)):=by
  have le6:=Hle.newCells w5 (e2 s0)
  refine ⟨w5.newCells _,hle3.trans le6,u2.mono le6,?_,?_,⟨by omega,fun hj=>by have:=own_lt2 _ hj;omega⟩,fun j hj=>?_,own_ge⟩
  ·have:=ORow.fresh h3 (sz:=2) (n:=1) (cs:=e2 s0) rfl
   simpa [cellsP] using this
  ·exact ((N.mono le4).kp fun j hj=>But.kp u3 (by have:=own_lt2 j hj;omega)).mono le6
  ·simp [blkOf] at hj;subst hj
   exact ⟨by omega,by omega,fun hj=>by have:=own_lt2 _ hj;omega⟩
 have fel:∀ h',Hle g0 h'->h'.read1 h.next 1=some le:=fun h' l=>(v4.mono l).rd1 (i:=1) (c:=le) rfl
 have alen:=hA.llen
 rw [L104_1]
 refine loop_by (σ:=AVal×Nat×Nat) (fun p h'=>∃ (s:BS K2) (own:List Nat) (mp:List (K2×Int)),MemP g0 h' fe le A.letters.length (h.next+2) g2.next p.1 own s.w mp s.R (s.w.map (endP fit E₁ E₂))/\MapS mp s.w 0/\s.st=p.2.2/\p.2.1<=s.w.length/\s.R.length=s.w.length/\capOk s=true /\
   runU (nextP fit R₁ R₂) A.letters.length (4098 - p.2.1) p.2.1 s=runU (nextP fit R₁ R₂) A.letters.length 4098 0 (begU A.letters.length s0)/\∀ x∈s.w,InP R₁.length R₂.length x)
  (fun p=>[(2,.func 103 [] [.ptr bf 0,.ptr bm 0,.ptr bn 0]),(3,.func 105 [] [.ptr bm 0,.ptr bn 0,.ptr bf 0]),(4,.ptr h.next 0),(10,.ptr (h.next+1+1) 0),(11,.map g2.next),(12,p.1),(13,.int .i64 p.2.2),(14,.int .i64 p.2.1)]) (fun p=>4097 - p.2.1) (.slice h3.next 0 1 1 2,0,0) (by simp) ?_ ?_
 ·refine ⟨begU A.letters.length s0,own,_,C0,?_,rfl,by simp,rfl,by simp [capOk,begU],rfl,fun x hx'=>by simp [begU] at hx';rw [hx'];exact hs0⟩
  have:=(MapS.nil (κ:=K2) 0).push (c:=s0) (by simp)
  simpa [aput,begU] using this
 clear C0 u1 u2 u3 w5 w4 le4 rd4 rd5 rd5' rd6 rd7 rd8 rd9
 generalize runU (nextP fit R₁ R₂) A.letters.length 4098 0 (begU A.letters.length s0)=r at *
 rintro ⟨wv,n,steps⟩ h4 K ⟨s,own,mp,C,ms,hst',hn,hRl,cok,hrun,hall⟩ hK
 simp only at C hst' hn hrun hK
 have wl:=C.work.len
 have cap:=cok
 unfold capOk at cap
 simp at cap
 simp [wl]
 refine ap_split (fun hd=>?_) (fun hd=>?_)
 ·have hd:n < s.w.length:=by omega
  have fr:=fel h4 C.hle
  simp [fr,alen]
  rw [L104_2]
  have hr1:r=runU (nextP fit R₁ R₂) A.letters.length (4097 - n) (n+1) (rowU (nextP fit R₁ R₂) A.letters.length n (List.range A.letters.length) s):=by
   rw [<-hrun,show 4098 - n=(4097 - n)+1 by omega]
   conv=>lhs;unfold runU
   rw [if_pos ⟨hd,cok⟩]
  have bad:∀ c,c < A.letters.length->¬ capOk (rowU (nextP fit R₁ R₂) A.letters.length n (List.range (c+1)) s)=true->¬ capOk r=true:=fun c hc hb=>by
   rw [<-hrun,show 4098 - n=(4097 - n)+1 by omega]
   exact run_bad hd hc cok hb
  refine loop_by (σ:=AVal×Nat×Nat) (fun p h'=>∃ (own:List Nat) (mp:List (K2×Int)),MemP g0 h' fe le A.letters.length (h.next+2) g2.next p.1 own (rowU (nextP fit R₁ R₂) A.letters.length n (List.range p.2.1) s).w mp (rowU (nextP fit R₁ R₂) A.letters.length n (List.range p.2.1) s).R ((rowU (nextP fit R₁ R₂) A.letters.length n (List.range p.2.1) s).w.map (endP fit E₁ E₂)) /\
    MapS mp (rowU (nextP fit R₁ R₂) A.letters.length n (List.range p.2.1) s).w 0/\(rowU (nextP fit R₁ R₂) A.letters.length n (List.range p.2.1) s).st=p.2.2/\p.2.1<=A.letters.length /\
    (rowU (nextP fit R₁ R₂) A.letters.length n (List.range p.2.1) s).R.length=(rowU (nextP fit R₁ R₂) A.letters.length n (List.range p.2.1) s).w.length/\capOk (rowU (nextP fit R₁ R₂) A.letters.length n (List.range p.2.1) s)=true)
   (fun p=>[(2,.func 103 [] [.ptr bf 0,.ptr bm 0,.ptr bn 0]),(3,.func 105 [] [.ptr bm 0,.ptr bn 0,.ptr bf 0]),(4,.ptr h.next 0),(10,.ptr (h.next+1+1) 0),(11,.map g2.next),(12,p.1),(13,.int .i64 p.2.2),(14,.int .i64 n),(40,.int .i64 A.letters.length),(41,.int .i64 p.2.1)]) (fun p=>A.letters.length - p.2.1) (wv,0,steps) (by simp) ?_ ?_
  ·exact ⟨own,mp,C,ms,hst',Nat.zero_le _,hRl,cok⟩
  clear C ms hst' hRl wl fr own mp
  rintro ⟨wv,c,steps⟩ h5 K2 ⟨own,mp,C,ms,hst',hcl,hRl,cok'⟩ hK2
  simp only at C ms hst' hcl hRl cok' hK2
  have rm:=rowU_mono (next:=nextP fit R₁ R₂) (L:=A.letters.length) n (List.range c) s
  have cap':=cok'
  unfold capOk at cap'
  simp at cap'
  simp
  refine ap_split (fun hq=>?_) (fun hq=>?_)
  ·have hq:c < A.letters.length:=by omega
   have hb:=bad c hq
   have hsn:rowU (nextP fit R₁ R₂) A.letters.length n (List.range (c+1)) s=stepU (nextP fit R₁ R₂) A.letters.length n (rowU (nextP fit R₁ R₂) A.letters.length n (List.range c) s) c:=by rw [List.range_succ,rowU_snoc]
   rw [hsn] at hb
   generalize hs':rowU (nextP fit R₁ R₂) A.letters.length n (List.range c) s=s' at *
   have hnw:n < s'.w.length:=by omega
   have hwn:s'.w[n]?=some s'.w[n]:=List.getElem?_eq_getElem hnw
   obtain ⟨i1,rd⟩:=C.at hnw
   have wrc:wrapF .i64 ((c:Int)+1)=(c:Int)+1:=wrap64 (by omega) (by omega)
   simp [i1,rd,-List.reduceReplicate]
   have hall':∀ x∈s'.w,InP R₁.length R₂.length x:=by rw [<-hs'];exact rowU_all (nextP_in rw₁ rw₂) n _ hall
   refine f105 hf (jn.mono (leh.trans C.hle)) (hall' s'.w[n] (List.getElem_mem _)) rw₁.len rw₂.len hq fun h6 w6 le6=>?_
   have C6:=C.mono w6 le6
   have hnk:nextP fit R₁ R₂ s'.w[n] c=if fit (decide (0<=(stepP R₁ R₂ s'.w[n] c).1)) (decide (0<=(stepP R₁ R₂ s'.w[n] c).2))=true then some (stepP R₁ R₂ s'.w[n] c) else none:=rfl
   have hTin:=stepP_in rw₁ rw₂ s'.w[n] c
   generalize stepP R₁ R₂ s'.w[n] c=T at *
   generalize hgo:fit (decide (0<=T.1)) (decide (0<=T.2))=go at *
   have w7:=C6.wf.newCells [.int .i64 0,.int .i64 0]
   have le7:=Hle.newCells C6.wf [.int .i64 0,.int .i64 0]
   obtain ⟨h8,q1,q2,q3⟩:=(Blk.new h6 [.int .i64 0,.int .i64 0]).write (off:=0) (vs:=e2 T) (by simp [e2]) rfl
   have tl:(e2 T).length=2:=rfl
   simp [q1,tl,-List.reduceReplicate]
   have hge6:=C6.hle.next
   have l1:=C6.map.lt C6.wf
   have l2:=own_lt C6.work C6.wf
   have l3:=C6.mach.lt C6.wf
   have C8:=(C6.mono w7 le7).but w2 q3 (by simp) (by omega) (by omega) (fun hj=>by have:=l2 _ hj;omega) (fun hj=>by have:=l3 _ hj;omega)
   cases go
   ·have hs2:stepU (nextP fit R₁ R₂) A.letters.length n s' c=s':=by unfold stepU;rw [hwn];simp only;rw [hnk,if_neg (by simp)]
    rw [hs2] at hsn
    simp [wrc]
    refine hK2 (wv,c+1,steps) _ _ (by simp;omega) ?_ ?_
    ·simp
    ·simp only [hsn]
     exact ⟨own,mp,C8,ms,hst',by omega,hRl,cok'⟩
   ·have hs2:stepU (nextP fit R₁ R₂) A.letters.length n s' c=addU A.letters.length n c T s':=by unfold stepU;rw [hwn];simp only;rw [hnk,if_pos rfl]
    rw [hs2] at hsn hb
    have st1:(addU A.letters.length n c T s').st=s'.st+1:=by unfold addU;split<;>rfl
    have wrs:wrapF .i64 ((steps:Int)+1)=(steps:Int)+1:=wrap64 (by omega) (by omega)
    simp [wrs]
    refine ap_split (fun hz=>?_) (fun hz=>?_)
    ·have hbad:¬ capOk r=true:=hb (by unfold capOk;simp;intro h1;omega)
     simp
     exact fun w=>H0 hbad h8 w (leh.trans C8.hle)
    ·have v8:Blk h8 h6.next (e2 T):=by simpa [e2] using q2
     have r8:=pair_rd v8
     have lk:=C8.map.lookup kd76 T (.int .i64 0) true
     by_cases hin:T∈s'.w
     ·rw [ms.old hin,Int.add_zero] at lk
      have lk:lookupA ⟨76,true,[.int .i64,.int .i64]⟩ (.int .i64 0) true (.map g2.next) (.agg (e2 T)) h8=some (.tup [.int .i64 (idxK s'.w T:Int),.bool true]):=lk
      obtain ⟨tv,b,h9,y1,y2,y3,y4,y5,C9⟩:=C8.put w2 (n:=n) (c:=c) (by rw [hRl];exact hnw) hq (idxK s'.w T:Int)
      have y1:h8.read1 (h.next+1+1) 2=some tv:=y1
      simp [r8,lk,y1,y2,y3,y4,y5,wrc,-List.reduceReplicate]
      rw [addU_old _ hin] at hsn
      refine hK2 (wv,c+1,steps+1) _ _ (by simp;omega) ?_ ?_
      ·simp
      ·simp only [hsn]
       refine ⟨own,mp,C9,ms,by show s'.st+1=steps+1;omega,by omega,by rw [setRC_length];exact hRl,?_⟩
       unfold capOk;simp;omega
     ·rw [ms.new hin] at lk
      have lk:lookupA ⟨76,true,[.int .i64,.int .i64]⟩ (.int .i64 0) true (.map g2.next) (.agg (e2 T)) h8=some (.tup [.int .i64 0,.bool false]):=lk
      have wl8:=C8.work.len
      rw [addU_new _ hin] at hsn hb
      by_cases h96:s'.w.length=4096
      ·have hbad:¬ capOk r=true:=hb (by unfold capOk;simp;omega)
       rw [h96] at wl8
       simp [r8,lk,wl8,-List.reduceReplicate]
       exact fun w=>H0 hbad h8 w (leh.trans C8.hle)
      ·have n96:¬ ((s'.w.length:Int)=4096):=by omega
       have lts:s'.w.length<=4096:=by omega
       simp [r8,lk,wl8,n96,h96,-List.reduceReplicate]
       refine f103 hf (jn.mono (leh.trans C8.hle)) (by rw [hE₁,hE₂];exact hTin) fun h9 w9 le9=>?_
       have C9:=C8.mono w9 le9
       have ne1:h6.next∉own:=fun hj=>by have:=l3 _ hj;omega
       simp
       refine f71 C9.mach (hA.mono (leh.trans C9.hle)) rfl hL1 hL (by omega) _ fun h10 own' w10 N10 ho10 hx10=>?_
       have C10:=C9.add w2 w10 N10 ho10 hx10
       have v10:=Blk.kp (v8.mono le9) (hx10.get _ ne1)
       have r10:=pair_rd v10
       obtain ⟨h11,f1,C11,bt⟩:=C10.upd w2 T (s'.w.length:Int)
       have f1:updateA ⟨76,true,[.int .i64,.int .i64]⟩ (.map g2.next) (.agg (e2 T)) (.int .i64 (s'.R.length:Int)) h10=some (none,h11):=by rw [hRl];exact f1
       have r11:=pair_rd (Blk.kp v10 (But.kp bt (by omega)))
       obtain ⟨h12,p1,C12⟩:=C11.pushW w2 T (by omega)
       have p1:appendA (h11.newCells (e2 T)) 2 wv (.slice h11.next 0 1 1 2)=some (some (.slice (h11.next+1) 0 (s'.w.length+1) (s'.w.length+1) 2),h12):=p1
       obtain ⟨tv,b,h13,y1,y2,y3,y4,y5,C13⟩:=C12.put w2 (n:=n) (c:=c) (by simp;omega) hq (s'.w.length:Int)
       have y1:h12.read1 (h.next+1+1) 2=some tv:=y1
       have lpT:listPut [.int .i64 0,.int .i64 0] 0 (e2 T)=e2 T:=rfl
       rw [<-hRl] at y5
       simp [r10,f1,r11,lpT,tl,p1,y1,y2,y3,y4,y5,wrc,-List.reduceReplicate]
       have pm:=ms.push hin
       rw [Int.add_zero] at pm
       refine hK2 (.slice (h11.next+1) 0 (s'.w.length+1) (s'.w.length+1) 2,c+1,steps+1) _ _ (by simp;omega) ?_ ?_
       ·simp
       ·simp only [hsn]
        refine ⟨own',_,?_,pm,by show s'.st+1=steps+1;omega,by omega,by rw [setRC_length];simp;omega,?_⟩
        ·rw [List.map_append];exact C13
        ·unfold capOk;simp;omega
  ·have:c=A.letters.length:=by omega
   subst this
   have wr:wrapF .i64 ((n:Int)+1)=(n:Int)+1:=wrap64 (by omega) (by omega)
   simp [wr]
   refine hK (wv,n+1,steps) _ _ (by simp;omega) ?_ ⟨_,own,mp,C,ms,hst',by simp;omega,hRl,cok',?_,rowU_all (nextP_in rw₁ rw₂) n _ hall⟩
   ·simp
   ·rw [hr1,show 4098 - (n+1)=4097 - n by omega]
 ·have:n=s.w.length:=by omega
  subst this
  have hr:r=s:=by
   rw [<-hrun]
   rw [show 4098 - s.w.length=(4097 - s.w.length)+1 by omega]
   unfold runU
   rw [if_neg (by simp)]
  simp
  subst hr
  exact fun w=>H1 cok h4 (h.next+2) own w (leh.trans C.hle) C.mach fun j hj=>by have:=C.go j hj;omega
end Go.Ab.Z
namespace Go.Ab.Z
open Go Go.Ab
variable {h h':AHeap} {k:Post} {fe le en mo en' mo':AVal} {A:PAlpha} {X Y:PAuto}
theorem autoE_zero:autoE A X=0↔AlphaOk A/\AutoOk A X:=by
 unfold autoE
 by_cases h1:AlphaOk A
 ·by_cases h2:AutoOk A X
  ·simp [h1,h2]
  ·simp [h1,h2]
 ·simp [h1]
noncomputable def bothE (A:PAlpha) (X Y:PAuto):Int:=if autoE A X≠0 then autoE A X else if autoE A Y≠0 then autoE A Y else if ¬ capOk (detR A X)=true then 9 else if ¬ capOk (detR A Y)=true then 9 else 0
noncomputable def mR (A:PAlpha) (X:PAuto):List (List Int):=reR A.letters (minY A X)
noncomputable def mE (A:PAlpha) (X:PAuto):List Bool:=reE (minY A X)
theorem bothE_zero (h:bothE A X Y=0):AlphaOk A/\AutoOk A X/\AutoOk A Y/\capOk (detR A X)=true/\capOk (detR A Y)=true:=by
 unfold bothE at h
 split at h
 ·contradiction
 ·rename_i h1
  split at h
  ·contradiction
  ·rename_i h2
   split at h
   ·cases h
   ·rename_i h3
    split at h
    ·cases h
    ·rename_i h4
     simp only [ne_eq,Decidable.not_not] at h1 h2
     obtain ⟨a,b⟩:=autoE_zero.1 h1
     obtain ⟨_,c⟩:=autoE_zero.1 h2
     exact ⟨a,b,c,by simpa using h3,by simpa using h4⟩
def PtrV (v:AVal):Prop:=v=.nilp\/∃ m,v=.ptr m 0
theorem f49 (hA:IsAlpha h fe le A) (hX:IsAuto h en mo X) (hY:IsAuto h en' mo' Y)
  (H1:bothE A X Y=0->∀ h' m n,WF h'->Hle h h'->MachV h' m (mR A X) (mE A X)->MachV h' n (mR A Y) (mE A Y)->k (.tup [.ptr m 0,.ptr n 0,.int .i64 0]) h')
  (H0:bothE A X Y≠0->∀ h' v u,WF h'->Hle h h'->PtrV v->PtrV u->k (.tup [v,u,.int .i64 (bothE A X Y)]) h'):Cf 49 [.agg [fe,le],aV X.states en mo,aV Y.states en' mo'] h k:=by
 refine use_code compiled49 fun hw=>?_
 have w1:=hw.newCells [fe,le]
 have le1:=Hle.newCells hw [fe,le]
 have w2:=w1.newCells [.int .i64 X.states,en,mo]
 have le2:=Hle.newCells w1 [.int .i64 X.states,en,mo]
 have w3:=w2.newCells [.int .i64 Y.states,en',mo']
 have le3:=Hle.newCells w2 [.int .i64 Y.states,en',mo']
 have leh:=(le1.trans le2).trans le3
 have va:=((Blk.new h [fe,le]).mono le2).mono le3
 have vx:=(Blk.new (h.newCells [fe,le]) [.int .i64 X.states,en,mo]).mono le3
 have vy:=Blk.new ((h.newCells [fe,le]).newCells [.int .i64 X.states,en,mo]) [.int .i64 Y.states,en',mo']
 simp only [next_newCells] at vx vy
 have ra:=fun {g:AHeap} (l:Hle (((h.newCells [fe,le]).newCells [.int .i64 X.states,en,mo]).newCells [.int .i64 Y.states,en',mo']) g)=>(va.mono l).rd (off:=0) (n:=2) (l:=[fe,le]) (by simp) rfl
 have rx:=fun {g:AHeap} (l:Hle (((h.newCells [fe,le]).newCells [.int .i64 X.states,en,mo]).newCells [.int .i64 Y.states,en',mo']) g)=>(vx.mono l).rd (off:=0) (n:=3) (l:=[.int .i64 X.states,en,mo]) (by simp) rfl
 have ry:=fun {g:AHeap} (l:Hle (((h.newCells [fe,le]).newCells [.int .i64 X.states,en,mo]).newCells [.int .i64 Y.states,en',mo']) g)=>(vy.mono l).rd (off:=0) (n:=3) (l:=[.int .i64 Y.states,en',mo']) (by simp) rfl
 have rx0:=rx (Hle.refl _)
 have ra0:=ra (Hle.refl _)
 simp [fn49,aV,rx0,ra0]
 generalize hg0:((h.newCells [fe,le]).newCells [.int .i64 X.states,en,mo]).newCells [.int .i64 Y.states,en',mo']=g0 at *
 clear va vx vy
 refine f35 (hA.mono leh) (hX.mono leh) fun g1 w1' l1=>?_
 simp
 refine ap_split (fun hc=>?_) (fun hc=>?_)
 rotate_left
 ·have hb:bothE A X Y=autoE A X:=by unfold bothE;rw [if_pos hc]
  simp
  exact fun w=>hb ▸ H0 (by rw [hb];exact hc) g1 .nilp .nilp w (leh.trans l1) (.inl rfl) (.inl rfl)
 have hx0:autoE A X=0:=hc
 obtain ⟨ha,hx⟩:=autoE_zero.1 hx0
 simp [ra l1,ry l1]
 refine f35 (hA.mono (leh.trans l1)) (hY.mono (leh.trans l1)) fun g2 w2' l2=>?_
 have l12:=l1.trans l2
 simp
 refine ap_split (fun hc2=>?_) (fun hc2=>?_)
 rotate_left
 ·have hb:bothE A X Y=autoE A Y:=by unfold bothE;rw [if_neg (by simp [hx0]),if_pos hc2]
  simp
  exact fun w=>hb ▸ H0 (by rw [hb];exact hc2) g2 .nilp .nilp w (leh.trans l12) (.inl rfl) (.inl rfl)
 have hy0:autoE A Y=0:=hc2
 obtain ⟨_,hy⟩:=autoE_zero.1 hy0
 simp [ra l12,rx l12]
 refine f85 (hA.mono (leh.trans l12)) (hX.mono (leh.trans l12)) ha hx (fun c1 g3 m own w3' l3 M ho=>?_) (fun c1 g3 w3' l3=>?_)
 rotate_left
 ·have hb:bothE A X Y=9:=by unfold bothE;rw [if_neg (by simp [hx0]),if_neg (by simp [hy0]),if_pos c1]
  simp
  exact fun w=>hb ▸ H0 (by rw [hb];decide) g3 .nilp .nilp w (leh.trans (l12.trans l3)) (.inl rfl) (.inl rfl)
 have l13:=l12.trans l3
 simp [ra l13,ry l13]
 refine f85 (hA.mono (leh.trans l13)) (hY.mono (leh.trans l13)) ha hy (fun c2 g4 m2 own2 w4' l4 M2 ho2=>?_) (fun c2 g4 w4' l4=>?_)
 rotate_left
 ·have hb:bothE A X Y=9:=by unfold bothE;rw [if_neg (by simp [hx0]),if_neg (by simp [hy0]),if_neg (by simp [c1]),if_pos c2]
  simp
  exact fun w=>hb ▸ H0 (by rw [hb];decide) g4 (.ptr m 0) .nilp w (leh.trans (l13.trans l4)) (.inr ⟨m,rfl⟩) (.inl rfl)
 have hb:bothE A X Y=0:=by unfold bothE;rw [if_neg (by simp [hx0]),if_neg (by simp [hy0]),if_neg (by simp [c1]),if_neg (by simp [c2])]
 simp
 exact fun w=>H1 hb g4 m m2 w (leh.trans (l13.trans l4)) (M.mono l4).view M2.view
theorem mR_len (A:PAlpha) (X:PAuto):(mR A X).length=(minY A X).states.toNat:=reR_length _ _
theorem mE_len (A:PAlpha) (X:PAuto):(mE A X).length=(mR A X).length:=by rw [mR_len];exact reE_length _
theorem mR_w (A:PAlpha) (X:PAuto):RowsW A.letters.length (mR A X).length (mR A X):=by rw [mR_len];exact reR_w (minY_w A X)
theorem mR_pos {A:PAlpha} {X:PAuto} (h:capOk (detR A X)=true):1<=(mR A X).length/\(mR A X).length<=4096:=by rw [mR_len];have:=minY_st h;omega
noncomputable def pairR (fit:Bool->Bool->Bool) (A:PAlpha) (X Y:PAuto):BS K2:=runU (nextP fit (mR A X) (mR A Y)) A.letters.length 4098 0 (begU A.letters.length (0,0))
noncomputable def pairF (fit:Bool->Bool->Bool) (A:PAlpha) (X Y:PAuto):List Bool:=(pairR fit A X Y).w.map (endP fit (mE A X) (mE A Y))
def X0:PAuto:=⟨0,[],[]⟩
noncomputable def pairX (fit:Bool->Bool->Bool) (A:PAlpha) (X Y:PAuto):PAuto×Int :=
 if bothE A X Y≠0 then (X0,bothE A X Y) else if ¬ capOk (pairR fit A X Y)=true then (X0,9) else (leastX (pairR fit A X Y).R (pairF fit A X Y) A.sy,0)
theorem X0_is (h:AHeap):IsAuto h .nils .nils X0:=⟨(ORow.nil _ _).row1,⟨by simp [X0],.inl ⟨rfl,rfl⟩⟩,by simp [X0],by simp [X0],⟨by unfold I64 X0;simp,by simp [X0],by simp [X0]⟩⟩
theorem X0_own (h₀ h:AHeap):OwnAuto h₀ h .nils .nils X0:=⟨ORow.nil _ _,ORow.nil _ _,fun j hj=>(by cases hj),fun j hj=>(by cases hj)⟩
theorem PtrV.one {v:AVal} (h:PtrV v):oneA v=true:=by rcases h with rfl | ⟨m,rfl⟩<;>rfl
theorem PtrV.cells {v:AVal} (h:PtrV v):v.cells=[v]:=by rcases h with rfl | ⟨m,rfl⟩<;>rfl
theorem f45 {fid:Nat} {fit:Bool->Bool->Bool} (hf:FitOk fid fit) (hA:IsAlpha h fe le A) (hX:IsAuto h en mo X) (hY:IsAuto h en' mo' Y)
  (H:∀ h' ze zm,WF h'->Hle h h'->IsAuto h' ze zm (pairX fit A X Y).1->OwnAuto h h' ze zm (pairX fit A X Y).1->k (.tup [aV (pairX fit A X Y).1.states ze zm,.int .i64 (pairX fit A X Y).2]) h') :
  Cf 45 [.agg [fe,le],aV X.states en mo,aV Y.states en' mo',.func fid [] []] h k:=by
 refine use_code compiled45 fun hw=>?_
 have w1:=hw.newCells [fe,le]
 have le1:=Hle.newCells hw [fe,le]
 have w2:=w1.newCells [.int .i64 X.states,en,mo]
 have le2:=Hle.newCells w1 [.int .i64 X.states,en,mo]
 have w3:=w2.newCells [.int .i64 Y.states,en',mo']
 have le3:=Hle.newCells w2 [.int .i64 Y.states,en',mo']
 have w4:=w3.newCells [.func fid [] []]
 have le4:=Hle.newCells w3 [.func fid [] []]
 have w5:=w4.newCells [.int .i64 0,.nils,.nils]
 have le5:=Hle.newCells w4 [.int .i64 0,.nils,.nils]
 have leh:=(((le1.trans le2).trans le3).trans le4).trans le5
 have va:=((((Blk.new h [fe,le]).mono le2).mono le3).mono le4).mono le5
 have vx:=(((Blk.new (h.newCells [fe,le]) [.int .i64 X.states,en,mo]).mono le3).mono le4).mono le5
 have vy:=((Blk.new ((h.newCells [fe,le]).newCells [.int .i64 X.states,en,mo]) [.int .i64 Y.states,en',mo']).mono le4).mono le5
 have vf:=(Blk.new (((h.newCells [fe,le]).newCells [.int .i64 X.states,en,mo]).newCells [.int .i64 Y.states,en',mo']) [.func fid [] []]).mono le5
 have vr:=Blk.new ((((h.newCells [fe,le]).newCells [.int .i64 X.states,en,mo]).newCells [.int .i64 Y.states,en',mo']).newCells [.func fid [] []]) [.int .i64 0,.nils,.nils]
 simp only [next_newCells] at vx vy vf vr
 have ra:=va.rd (off:=0) (n:=2) (l:=[fe,le]) (by simp) rfl
 have rx:=vx.rd (off:=0) (n:=3) (l:=[.int .i64 X.states,en,mo]) (by simp) rfl
 have ry:=vy.rd (off:=0) (n:=3) (l:=[.int .i64 Y.states,en',mo']) (by simp) rfl
 simp [fn45,aV,ra,rx,ry]
 generalize hg0:((((h.newCells [fe,le]).newCells [.int .i64 X.states,en,mo]).newCells [.int .i64 Y.states,en',mo']).newCells [.func fid [] []]).newCells [.int .i64 0,.nils,.nils]=g0 at *
 have gn:g0.next=h.next+5:=by rw [<-hg0];simp
 have fin:∀ (g:AHeap) (Z:PAuto) (e:Int) (ze zm:AVal),(pairX fit A X Y)=(Z,e)->WF g->Hle g0 g->IsAuto g ze zm Z->OwnAuto g0 g ze zm Z ->
   ∃ g',g.write (h.next+1+1+1+1) 0 [.int .i64 Z.states,ze,zm]=some g'/\g'.read (h.next+1+1+1+1) 0 3=some [.int .i64 Z.states,ze,zm]/\(WF g'->k (.tup [.agg [.int .i64 Z.states,ze,zm],.int .i64 e]) g'):=by
  intro g Z e ze zm he wg lg iz oz
  obtain ⟨g',y1,y2,y3⟩:=(vr.mono lg).write (off:=0) (vs:=[.int .i64 Z.states,ze,zm]) (by simp) (one3 rfl oz.oe.one oz.om.one)
  have y2:Blk g' (h.next+1+1+1+1) [.int .i64 Z.states,ze,zm]:=by simpa using y2
  refine ⟨g',y1,y2.rd (off:=0) (n:=3) (by simp) rfl,fun w=>?_⟩
  have kp:∀ j,j≠h.next+1+1+1+1->Kp g g' j:=fun j hj=>But.kp y3 hj
  have o1:=own_kp oz.oe fun j hj=>kp j (by have:=oz.ge j hj;omega)
  have o2:=own_kp oz.om fun j hj=>kp j (by have:=(oz.go j hj).1;omega)
  have H:=H g' ze zm w (y3.hle (leh.trans lg) hw (by omega))
  rw [he] at H
  exact H ⟨o1.row1,o2.row (by intro l hl;obtain ⟨x,_,rfl⟩:=List.mem_map.1 hl;rfl) (by simp) rfl,iz.ne,iz.nm,iz.ok⟩ ⟨o1,o2,fun j hj=>by have:=oz.ge j hj;omega,fun j hj=>⟨by have:=(oz.go j hj).1;omega,(oz.go j hj).2⟩⟩
 refine f49 (hA.mono leh) (hX.mono leh) (hY.mono leh) (fun hb g1 m n w1' l1 vm vn=>?_) (fun hb g1 v u w1' l1 pv pu=>?_)
 rotate_left
 ·have wA:=w1'.newCells [.nilp]
  have lA:=Hle.newCells w1' [.nilp]
  have wB:=wA.newCells [.nilp]
  have lB:=Hle.newCells wA [.nilp]
  obtain ⟨g2,c1,c2,c3⟩:=((Blk.new g1 [.nilp]).mono lB).write1 (i:=0) (c:=v) (by simp) pv.one
  have w2':=c3.wf wB (by simp;omega)
  have lC:=c3.hle (lA.trans lB) w1' (Nat.le_refl _)
  obtain ⟨g3,d1,d2,d3⟩:=(Blk.kp (Blk.new (g1.newCells [.nilp]) [.nilp]) (But.kp c3 (by simp))).write1 (i:=0) (c:=u) (by simp) pu.one
  have lD:=d3.hle lC w1' (by simp)
  have w3':=d3.wf w2' (by rw [c3.next];simp)
  simp only [next_newCells] at d1
  obtain ⟨g4,y1,y2,y3⟩:=fin g3 X0 (bothE A X Y) .nils .nils (by unfold pairX;rw [if_pos hb]) w3' (l1.trans lD) (X0_is _) (X0_own _ _)
  have y1:g3.write (h.next+1+1+1+1) 0 [.int .i64 0,.nils,.nils]=some g4:=y1
  have y2:g4.read (h.next+1+1+1+1) 0 3=some [.int .i64 0,.nils,.nils]:=y2
  have pc1:=pv.cells
  have pc2:=pu.cells
  have d:decide (bothE A X Y=0)=false:=decide_eq_false hb
  simp [pc1,pc2,c1,d1]
  simp only [d]
  simp [y1,y2]
  exact y3
 ·have wA:=w1'.newCells [.nilp]
  have lA:=Hle.newCells w1' [.nilp]
  have wB:=wA.newCells [.nilp]
  have lB:=Hle.newCells wA [.nilp]
  obtain ⟨g2,c1,c2,c3⟩:=((Blk.new g1 [.nilp]).mono lB).write1 (i:=0) (c:=.ptr m 0) (by simp) rfl
  have w2':=c3.wf wB (by simp;omega)
  have lC:=c3.hle (lA.trans lB) w1' (Nat.le_refl _)
  obtain ⟨g3,d1,d2,d3⟩:=(Blk.kp (Blk.new (g1.newCells [.nilp]) [.nilp]) (But.kp c3 (by simp))).write1 (i:=0) (c:=.ptr n 0) (by simp) rfl
  have lD:=d3.hle lC w1' (by simp)
  have w3':=d3.wf w2' (by rw [c3.next];simp)
  simp only [next_newCells] at d1 d2
  have c2:Blk g2 g1.next [.ptr m 0]:=by simpa using c2
  have c2':=Blk.kp c2 (But.kp d3 (by simp))
  have d2:Blk g3 (g1.next+1) [.ptr n 0]:=by simpa using d2
  have lE:=l1.trans lD
  have ra3:=(va.mono lE).rd (off:=0) (n:=2) (l:=[fe,le]) (by simp) rfl
  obtain ⟨ha,hx,hy,k1,k2⟩:=bothE_zero hb
  have leE:=leh.trans lE
  simp [c1,d1,ra3]
  have jn:Joins g3 fid (h.next+1+1+1) g1.next (g1.next+1) m n (mR A X) (mR A Y) (mE A X) (mE A Y):=⟨vf.mono lE,c2',d2,vm.mono lD,vn.mono lD⟩
  refine f104 (s0:=(0,0)) (hA.mono leE) ha.1.2.1 ha.1.2.2 hf jn (mR_w A X) (mR_w A Y) (mE_len A X) (mE_len A Y) ⟨⟨by decide,by have:=mR_pos k1;simp;omega⟩,⟨by decide,by have:=mR_pos k2;simp;omega⟩⟩ (fun cok g4 mm own w4' l4 M ho=>?_) (fun cok g4 w4' l4=>?_)
  ·have rw0:RunW A.letters.length (pairR fit A X Y):=runU_w _ _ (begU_w _ _)
   have hne:(pairR fit A X Y).R≠[]:=by
    have h0:0 < (pairR fit A X Y).w.length:=runU_pos _ _ (by simp [begU])
    intro e
    have:=rw0.len
    rw [e] at this;simp at this;omega
   have hcap:(pairR fit A X Y).R.length<=4096:=by
    rw [rw0.len]
    have cok':=cok
    change capOk (pairR fit A X Y)=true at cok'
    unfold capOk at cok'
    simp at cok'
    exact cok'.2
   simp
   refine f59 (R:=(pairR fit A X Y).R) (E:=pairF fit A X Y) M (hA.mono (leE.trans l4)) hne (fun r hr t ht=>by rw [rw0.len];exact (rw0.rows.bd r hr t ht).2) (by omega) ha.1.2.2 fun g5 ze zm w5' l5 iz oz=>?_
   obtain ⟨g6,y1,y2,y3⟩:=fin g5 (leastX (pairR fit A X Y).R (pairF fit A X Y) A.sy) 0 ze zm (by unfold pairX;rw [if_neg (by simp [hb]),if_neg (fun hn=>hn cok)]) w5' (lE.trans (l4.trans l5)) iz ⟨oz.oe,oz.om,fun j hj=>by have:=oz.ge j hj;have:=(lE.trans l4).next;omega,fun j hj=>⟨by have:=(oz.go j hj).1;have:=(lE.trans l4).next;omega,(oz.go j hj).2⟩⟩
   simp [aV,y1,y2]
   exact y3
  ·have cok':¬ capOk (pairR fit A X Y)=true:=cok
   obtain ⟨g6,y1,y2,y3⟩:=fin g4 X0 9 .nils .nils (by unfold pairX;rw [if_neg (by simp [hb]),if_pos cok']) w4' (lE.trans l4) (X0_is _) (X0_own _ _)
   have y1:g4.write (h.next+1+1+1+1) 0 [.int .i64 0,.nils,.nils]=some g6:=y1
   have y2:g6.read (h.next+1+1+1+1) 0 3=some [.int .i64 0,.nils,.nils]:=y2
   simp [y1,y2]
   exact y3
end Go.Ab.Z
namespace Go.Ab.Z
open Go Go.Ab
variable {h h':AHeap} {k:Post} {fe le en mo en' mo':AVal} {A:PAlpha} {X Y:PAuto}
def fAnd (p q:Bool):Bool:=p && q
def fOr (p q:Bool):Bool:=p || q
theorem OwnAuto.up {h₀ h₁:AHeap} {Z:PAuto} (o:OwnAuto h₁ h en mo Z) (l:h₀.next<=h₁.next):OwnAuto h₀ h en mo Z:=⟨o.oe,o.om,fun j hj=>Nat.le_trans l (o.ge j hj),fun j hj=>⟨Nat.le_trans l (o.go j hj).1,(o.go j hj).2⟩⟩
theorem OwnAuto.lay {h₀:AHeap} {b:Nat} {n:Int} {Z:PAuto} (o:OwnAuto h₀ h en mo Z) (iz:IsAuto h en mo Z) (w:WF h₀) (l:Hle h₀ h) (v:Blk h b [.int .i64 0,.nils,.nils]) (hb:∀ j∈blkOf en,j≠b) (hb':∀ j∈blkOf mo,j≠b) :
  ∃ h',h.write b 0 [.int .i64 n,en,mo]=some h'/\h'.read b 0 3=some [.int .i64 n,en,mo]/\But b h h'/\IsAuto h' en mo Z/\OwnAuto h₀ h' en mo Z:=by
 obtain ⟨h',y1,y2,y3⟩:=v.write (off:=0) (vs:=[.int .i64 n,en,mo]) (by simp) (one3 rfl o.oe.one o.om.one)
 have y2:Blk h' b [.int .i64 n,en,mo]:=by simpa using y2
 have o1:=own_kp o.oe fun j hj=>But.kp y3 (hb j hj)
 have o2:=own_kp o.om fun j hj=>But.kp y3 (hb' j hj)
 exact ⟨h',y1,y2.rd (off:=0) (n:=3) (by simp) rfl,y3,⟨o1.row1,o2.row (by intro l hl;obtain ⟨x,_,rfl⟩:=List.mem_map.1 hl;rfl) (by simp) rfl,iz.ne,iz.nm,iz.ok⟩,⟨o1,o2,o.ge,o.go⟩⟩
theorem f12 (hA:IsAlpha h fe le A) (hX:IsAuto h en mo X) (hY:IsAuto h en' mo' Y)
  (H:∀ h' ze zm,WF h'->Hle h h'->IsAuto h' ze zm (pairX fAnd A X Y).1->OwnAuto h h' ze zm (pairX fAnd A X Y).1->k (.tup [aV (pairX fAnd A X Y).1.states ze zm,.int .i64 (pairX fAnd A X Y).2]) h') :
  Cf 12 [.agg [fe,le],aV X.states en mo,aV Y.states en' mo'] h k:=by
 refine use_code compiled12 fun hw=>?_
 have w1:=hw.newCells [fe,le]
 have le1:=Hle.newCells hw [fe,le]
 have w2:=w1.newCells [.int .i64 X.states,en,mo]
 have le2:=Hle.newCells w1 [.int .i64 X.states,en,mo]
 have w3:=w2.newCells [.int .i64 Y.states,en',mo']
 have le3:=Hle.newCells w2 [.int .i64 Y.states,en',mo']
 have w4:=w3.newCells [.int .i64 0,.nils,.nils]
 have le4:=Hle.newCells w3 [.int .i64 0,.nils,.nils]
 have leh:=((le1.trans le2).trans le3).trans le4
 have va:=(((Blk.new h [fe,le]).mono le2).mono le3).mono le4
 have vx:=((Blk.new (h.newCells [fe,le]) [.int .i64 X.states,en,mo]).mono le3).mono le4
 have vy:=(Blk.new ((h.newCells [fe,le]).newCells [.int .i64 X.states,en,mo]) [.int .i64 Y.states,en',mo']).mono le4
 have vr:=Blk.new (((h.newCells [fe,le]).newCells [.int .i64 X.states,en,mo]).newCells [.int .i64 Y.states,en',mo']) [.int .i64 0,.nils,.nils]
 simp only [next_newCells] at vx vy vr
 have ra:=va.rd (off:=0) (n:=2) (l:=[fe,le]) (by simp) rfl
 have rx:=vx.rd (off:=0) (n:=3) (l:=[.int .i64 X.states,en,mo]) (by simp) rfl
 have ry:=vy.rd (off:=0) (n:=3) (l:=[.int .i64 Y.states,en',mo']) (by simp) rfl
 simp [fn12,aV,ra,rx,ry]
 generalize hg0:(((h.newCells [fe,le]).newCells [.int .i64 X.states,en,mo]).newCells [.int .i64 Y.states,en',mo']).newCells [.int .i64 0,.nils,.nils]=g0 at *
 have gn:g0.next=h.next+4:=by rw [<-hg0];simp
 refine f45 fit46 (hA.mono leh) (hX.mono leh) (hY.mono leh) fun g1 ze zm w1' l1 iz oz=>?_
 change IsAuto g1 ze zm (pairX fAnd A X Y).1 at iz
 change OwnAuto g0 g1 ze zm (pairX fAnd A X Y).1 at oz
 rw [show pairX (fun p q=>p && q) A X Y=pairX fAnd A X Y from rfl]
 obtain ⟨g2,y1,y2,y3,iz2,oz2⟩:=oz.lay (n:=(pairX fAnd A X Y).1.states) iz w4 l1 (vr.mono l1) (fun j hj=>by have:=oz.ge j hj;omega) (fun j hj=>by have:=(oz.go j hj).1;omega)
 simp [aV,y1,y2]
 intro w
 exact H g2 ze zm w (y3.hle (leh.trans l1) hw (by omega)) iz2 (oz2.up leh.next)
theorem f14 (hA:IsAlpha h fe le A) (hX:IsAuto h en mo X) (hY:IsAuto h en' mo' Y)
  (H:∀ h' ze zm,WF h'->Hle h h'->IsAuto h' ze zm (pairX fOr A X Y).1->OwnAuto h h' ze zm (pairX fOr A X Y).1->k (.tup [aV (pairX fOr A X Y).1.states ze zm,.int .i64 (pairX fOr A X Y).2]) h') :
  Cf 14 [.agg [fe,le],aV X.states en mo,aV Y.states en' mo'] h k:=by
 refine use_code compiled14 fun hw=>?_
 have w1:=hw.newCells [fe,le]
 have le1:=Hle.newCells hw [fe,le]
 have w2:=w1.newCells [.int .i64 X.states,en,mo]
 have le2:=Hle.newCells w1 [.int .i64 X.states,en,mo]
 have w3:=w2.newCells [.int .i64 Y.states,en',mo']
 have le3:=Hle.newCells w2 [.int .i64 Y.states,en',mo']
 have w4:=w3.newCells [.int .i64 0,.nils,.nils]
 have le4:=Hle.newCells w3 [.int .i64 0,.nils,.nils]
 have leh:=((le1.trans le2).trans le3).trans le4
 have va:=(((Blk.new h [fe,le]).mono le2).mono le3).mono le4
 have vx:=((Blk.new (h.newCells [fe,le]) [.int .i64 X.states,en,mo]).mono le3).mono le4
 have vy:=(Blk.new ((h.newCells [fe,le]).newCells [.int .i64 X.states,en,mo]) [.int .i64 Y.states,en',mo']).mono le4
 have vr:=Blk.new (((h.newCells [fe,le]).newCells [.int .i64 X.states,en,mo]).newCells [.int .i64 Y.states,en',mo']) [.int .i64 0,.nils,.nils]
 simp only [next_newCells] at vx vy vr
 have ra:=va.rd (off:=0) (n:=2) (l:=[fe,le]) (by simp) rfl
 have rx:=vx.rd (off:=0) (n:=3) (l:=[.int .i64 X.states,en,mo]) (by simp) rfl
 have ry:=vy.rd (off:=0) (n:=3) (l:=[.int .i64 Y.states,en',mo']) (by simp) rfl
 simp [fn14,aV,ra,rx,ry]
 generalize hg0:(((h.newCells [fe,le]).newCells [.int .i64 X.states,en,mo]).newCells [.int .i64 Y.states,en',mo']).newCells [.int .i64 0,.nils,.nils]=g0 at *
 have gn:g0.next=h.next+4:=by rw [<-hg0];simp
 refine f45 fit48 (hA.mono leh) (hX.mono leh) (hY.mono leh) fun g1 ze zm w1' l1 iz oz=>?_
 change IsAuto g1 ze zm (pairX fOr A X Y).1 at iz
 change OwnAuto g0 g1 ze zm (pairX fOr A X Y).1 at oz
 rw [show pairX (fun p q=>p || q) A X Y=pairX fOr A X Y from rfl]
 obtain ⟨g2,y1,y2,y3,iz2,oz2⟩:=oz.lay (n:=(pairX fOr A X Y).1.states) iz w4 l1 (vr.mono l1) (fun j hj=>by have:=oz.ge j hj;omega) (fun j hj=>by have:=(oz.go j hj).1;omega)
 simp [aV,y1,y2]
 intro w
 exact H g2 ze zm w (y3.hle (leh.trans l1) hw (by omega)) iz2 (oz2.up leh.next)
end Go.Ab.Z
namespace Go.Ab.Z
open Go Go.Ab
variable {h h':AHeap} {k:Post}
def rI (r:Int):AVal:=.int .i32 r
theorem f51 {v:AVal} {rs:List Int} (o:ORow h 1 v rs.length (rs.map rI)) (hn:rs.length<=100000000) (H:∀ h',WF h'->h'.next=h.next->(∀ j,j∉blkOf v->Kp h h' j)->ORow h' 1 v rs.length (rs.reverse.map rI)->k (oneOr []) h'):Cf 51 [v] h k:=by
 refine use_code compiled51 fun hw=>?_
 have ol:=o.len
 have w1:wrapF .i64 ((rs.length:Int) - 1)=(rs.length:Int) - 1:=wrap64 (by omega) (by omega)
 simp [fn51,ol,w1]
 rw [L51_1]
 refine loop_by (σ:=Nat) (fun i h'=>2*i<=rs.length/\WF h'/\h'.next=h.next/\(∀ j,j∉blkOf v->Kp h h' j)/\∃ l:List Int,l.length=rs.length/\ORow h' 1 v rs.length (l.map rI)/\∀ a,a < rs.length->l[a]?=if a < i\/rs.length<=a+i then rs[rs.length - 1 - a]? else rs[a]?)
  (fun i=>[(0,v),(2,.int .i64 i),(3,.int .i64 ((rs.length:Int) - 1 - i))]) (fun i=>rs.length - i) 0 (by simp) ?_ ?_
 ·exact ⟨Nat.zero_le _,hw,rfl,fun j _=>Kp.refl _ _,rs,rfl,o,fun a ha=>by rw [if_neg (by omega)]⟩
 rintro i h1 K ⟨hi,w1',nx,kp,l,hl,ol1,hget⟩ hK
 simp
 refine ap_split (fun hc=>?_) (fun hc=>?_)
 ·have hc:2*i+1 < rs.length:=by omega
  obtain ⟨j,hj⟩:∃ j:Nat,(rs.length:Int) - 1 - i=(j:Int):=⟨rs.length - 1 - i,by omega⟩
  have hjl:j=rs.length - 1 - i:=by omega
  have il:i < l.length:=by omega
  have jl:j < l.length:=by omega
  have a1:=ol1.idx (i:=i) (by omega) .i64
  have a2:=ol1.idx (i:=j) (by omega) .i64
  rw [Nat.mul_one] at a1 a2
  obtain ⟨rest,bb⟩:=ol1.blk (by omega)
  have r1:=bb.rd1 (i:=i) (c:=rI l[i]) (by rw [List.getElem?_append_left (by simpa using il)];simp [il])
  have r2:=bb.rd1 (i:=j) (c:=rI l[j]) (by rw [List.getElem?_append_left (by simpa using jl)];simp [jl])
  obtain ⟨h2,b1,b2,b3⟩:=ol1.write1 (i:=i) (c:=rI l[j]) (by omega) rfl
  rw [<-List.map_set] at b2
  obtain ⟨h3,c1,c2,c3⟩:=b2.write1 (i:=j) (c:=rI l[i]) (by omega) rfl
  rw [<-List.map_set] at c2
  have wr1:wrapF .i64 ((i:Int)+1)=(i:Int)+1:=wrap64 (by omega) (by omega)
  have wr2:wrapF .i64 ((j:Int) - 1)=(j:Int) - 1:=wrap64 (by omega) (by omega)
  have hb:rowB v∈blkOf v:=by
   have:=orow_kinds ol1
   rcases this with e | ⟨b,o,l,c,z,rfl⟩
   ·obtain ⟨_,⟨_,e2⟩ | ⟨b,cap,rest,e2,_⟩⟩:=ol1
    ·omega
    ·rw [e] at e2;cases e2
   ·simp [blkOf]
  have hbl:=own_lt ol1 w1' _ hb
  have w2:=b3.wf w1' hbl
  have w3:=c3.wf w2 (by rw [b3.next];exact hbl)
  rw [hj]
  simp only [rI] at r1 r2 b1 c1
  simp [a1,a2,r1,r2,b1,c1,wr1,wr2]
  refine hK (i+1) _ _ (by omega) ?_ ⟨by omega,w3,by rw [c3.next,b3.next];exact nx,fun y hy=>Kp.trans (kp y hy) (Kp.trans (But.kp b3 fun e=>hy (e ▸ hb)) (But.kp c3 fun e=>hy (e ▸ hb))),(l.set i l[j]).set j l[i],by simp [hl],c2,fun a ha=>?_⟩
  ·simp;omega
  ·have gi:=hget i (by omega)
   have gj:=hget j (by omega)
   rw [if_neg (by omega)] at gi gj
   rw [List.getElem?_eq_getElem il] at gi
   rw [List.getElem?_eq_getElem jl] at gj
   by_cases h1:a=j
   ·subst h1
    rw [List.getElem?_set_self (by simpa using jl),if_pos (by omega),gi]
    congr 1;omega
   ·rw [List.getElem?_set_ne (fun e=>h1 e.symm)]
    by_cases h2:a=i
    ·subst h2
     rw [List.getElem?_set_self il,if_pos (by omega),gj]
     congr 1
    ·rw [List.getElem?_set_ne (fun e=>h2 e.symm),hget a ha]
     by_cases h3:a < i\/rs.length<=a+i
     ·rw [if_pos h3,if_pos (by omega)]
     ·rw [if_neg h3,if_neg (by omega)]
 ·simp
  intro w
  refine H h1 w nx kp ?_
  have:l=rs.reverse:=by
   apply List.ext_getElem?
   intro a
   by_cases ha:a < rs.length
   ·rw [hget a ha,List.getElem?_reverse ha]
    split
    ·rfl
    ·congr 1;omega
   ·rw [List.getElem?_eq_none (by omega),List.getElem?_eq_none (by simp;omega)]
  rw [<-this];exact ol1
end Go.Ab.Z
