/- Part 8 of the proof (M11, M12, M13, M14, N1, N2, N3, N4, N7, N8, N10, N12, N13); no condition. -/
import Derived.Test.YtfpagfhhhlljjaaGreatDoorYD7
set_option linter.unusedVariables false
set_option linter.unusedSimpArgs false
set_option maxRecDepth 8000
namespace Go.Proofs.YtfpagfhhhlljjaaGreatDoor.Cov
open Sm Bins Go.RowKit
open Bool renaming not_false→jC,and_eq_true→jX,not_eq_true→yC,not_true→jU
open List renaming drop_eq_getElem_cons→zK,take_succ_eq_append_getElem→zN,append_assoc→zH,map_cons→jD,map_nil→jE,replicate→jZ,length_map→jH,drop_eq_nil_of_le→jV,take_of_length_le→jW,append_nil→jF,nil_append→qE,getElem_mem→jP,any_eq_false→wS,getElem?_eq_getElem→jS,findIdx?_eq_some_iff_getElem→qZ,findIdx?_eq_none_iff→wC,getElem?_cons_zero→zB,getElem?_cons_succ→zD
open Nat renaming le_refl→jL,le_of_ble_eq_true→jI,reduceEqDiff→jB,zero_add→jG,reduceAdd→jM,add_zero→jK
open Option renaming getD_some→jA,getD_none→jT
theorem AR9 (xs:List Nat):xs.map JI=(xs.map fun n:Nat=>(n:Int)).map qencI:=by
 rw[List.map_map]; rfl
def tupF:List Nat→Nat→List Nat × Nat
 | [],k=>([],k)
 | n :: ns,k=>(((tupF ns k).2 % n) :: (tupF ns k).1,(tupF ns k).2 / n)
def O6 (ns:List Nat)(k:Nat):List Int:=(tupF ns k).1.map fun n:Nat=>(n:Int)
theorem RU : ∀ (ns:List Nat) (k:Nat),(tupF ns k).1.length=ns.length
 | [],_=>rfl
 | n :: ns,k=>by simp [tupF,RU ns k]
theorem AQX : ∀ (ns:List Nat) (k:Nat),(tupF ns k).2≤k
 | [],_=>jL _
 | _ :: ns,k=>Nat.le_trans (Nat.div_le_self _ _) (AQX ns k)
theorem ZL : ∀ (ns:List Nat) (k:Nat),(∀ n∈ns,1≤n)→JV ns (O6 ns k)=true
 | [],_,_=>rfl
 | n :: ns,k,h=>by
   have h1:=h n (by simp)
   have ih:=ZL ns k (fun x hx=>h x (by simp [hx]))
   have h2:(tupF ns k).2 % n < n:=Nat.mod_lt _ (by omega)
   show JV (n :: ns) (((tupF ns k).2 % n:Nat) :: O6 ns k)=true
   unfold JV
   rw[ih]
   simp; omega
theorem tup_step {ns:List Nat}{K j:Nat}(hj:j < ns.length):tupF (ns.drop j) K=(((tupF (ns.drop (j+1)) K).2 % ns[j]) :: (tupF (ns.drop (j+1)) K).1,(tupF (ns.drop (j+1)) K).2 / ns[j]):=by
 rw[zK hj]; rfl
theorem AVV {α:Type}{f:α→List AV}{pre out:List α}{j:Nat}{x:α}(hj:j < pre.length):((pre.take (j+1)++out).map f).set j (f x)=(pre.take j++x :: out).map f:=by
 rw[zN hj,zH]
 simp only[List.map_append,jD,jE,List.singleton_append]
 rw[List.set_append_right _ _ (by simp; omega)]
 simp [Nat.min_eq_left (Nat.le_of_lt hj)]
theorem A54 (h:Hp)(n:Nat)(hn:n≤1048576):JO Tryz.prog true h 26 (.int .i64 (n:Int)) (.int .i64 (n:Int))=some (.own h.length 0 n,h++[.live 1 ((jZ n 0).map JI)]):=by
 have hz:NE Tryz.prog 3=some [.int .i64 0]:=by kernel_rfl
 have hr:room n 8:=JB (by omega) (by omega)
 unfold JO
 simp only[VF,sz3,XC,hz,Int.toNat_natCast]
 rw[if_pos ⟨by omega,Int.le_refl _,hr,rfl⟩]
 simp [JI]
theorem A3N {h:Hp}{o j:Nat}{rows:List (List AV)}{x:Nat}(ho:h[o]? = some (.live 1 rows))(hj : ∃ v,rows[j]? = some [v]):FP Tryz.prog h 3 (.ptr o j 0) (.int .i64 (x:Int))=some (h.set o (.live 1 (rows.set j (JI x)))):=by
 obtain⟨v,hv⟩:=hj
 rw[JQ (QR _ _) sz3 ho hv (by simp)]; rfl
theorem AQ8 (a b:Nat)(hb:0 < b):JY Tryz.prog 3 .rem (.int .i64 (a:Int)) (.int .i64 (b:Int))=some (.int .i64 ((a % b:Nat):Int)):=by
 rw[ADJ _ _ _ _ _ (by omega),Int.tmod_eq_emod_of_nonneg (by omega)]; rfl
theorem AQ9 (a b:Nat)(hb:0 < b)(ha:a≤9223372036854775807):JY Tryz.prog 3 .quo (.int .i64 (a:Int)) (.int .i64 (b:Int))=some (.int .i64 ((a / b:Nat):Int)):=by
 have h1:((a:Int).tdiv (b:Int))=((a / b:Nat):Int):=by rw[Int.tdiv_eq_ediv_of_nonneg (by omega)]; rfl
 have h2:=Nat.div_le_self a b
 rw[A1U _ _ _ _ _ (by omega),h1,LQ (by omega)]
theorem AG8 (G:Nat→AV)(m:Mo)(c:Cr)(K:Nat)(h:Hp)(hh:Here m c.pts)(hf:Full m)(h0:0 < c.pts.length)(hl:c.pts.length≤1048576)(hK:K≤1048576):PCall (En G) 125 [.agg (EE m),.agg (GV c),.int .i64 (K:Int)] h (.sl .any 1 ((O6 (szs m c.pts) K).map qencI)):=by
 have hs:=hf.szs hh
 have hsl:=LG m c.pts
 have hgo:ACalls (En G) 125 [.agg (EE m),.agg (GV c),.int .i64 (K:Int)] h fun v H=>ext h H∧outG 1 JI h (tupF (szs m c.pts) K).1 v H:=by
  refine acN Tryz.func125 rfl ?_
  show awp _ _ _ _ _ (EM _ [.tmp 6] _)
  have t:=Two.mk' h m c
  have hlt:h.length≤(h++[ABlk.live 2 [EE m]]++[ABlk.live 3 [GV c]]).length:=by simp
  have he0:ext h (h++[ABlk.live 2 [EE m]]++[ABlk.live 3 [GV c]]):=((ext.rfl' h).app _).app _
  simp -implicitDefEqProofs only[vQ,BD,↓reduceIte,jB,enP,JH,bxM,bxC]
  generalize h++[ABlk.live 2 [EE m]]++[ABlk.live 3 [GV c]]=H at t hlt he0 ⊢
  generalize (h++[ABlk.live 2 [EE m]]).length=cb at t ⊢
  have t2:Two h (H++[.live 1 ((jZ c.pts.length 0).map JI)]) m c cb:=t.app _
  simp -implicitDefEqProofs only[vQ,BD,KJ,↓reduceIte,jB,enP,IZ,JH,t.l1,jH,A54 _ _ hl,t2.l1]
  rw[wrap_i64 (n:=(c.pts.length:Int) - 1) (by omega) (by omega)]
  refine DL (fun n F H' => ∃ j,n=j∧j≤c.pts.length∧F 3 = .ptr h.length 0 0∧F 4 = .ptr cb 0 0∧F 7 = .own H.length 0 c.pts.length∧F 8 = .int .i64 ((j:Int) - 1)∧F 2 = .int .i64 ((tupF ((szs m c.pts).drop j) K).2:Nat)∧Two h H' m c cb∧ext h H'∧H'[H.length]? = some (.live 1 (((jZ c.pts.length 0).take j++(tupF ((szs m c.pts).drop j) K).1).map JI))) c.pts.length ⟨c.pts.length,rfl,jL _,by simp -implicitDefEqProofs only[AA,↓reduceIte,jB],by simp -implicitDefEqProofs only[AA,↓reduceIte,jB],by simp -implicitDefEqProofs only[AA,↓reduceIte,jB],by simp -implicitDefEqProofs only[AA,↓reduceIte],by simp -implicitDefEqProofs only[vQ,↓reduceIte,jB]; rw[jV (by omega)]; rfl,t2,he0.app _,?_⟩ ?_
  ·rw[jV (by omega),jW (by simp)]
   simp only[tupF,jF]
   exact CZ _ _
  rintro n F H' ⟨j,rfl,hj,f3,f4,f7,f8,f2,t',he,ho⟩
  simp -implicitDefEqProofs only[vQ,BD,↓reduceIte,enP,f8]
  cases n with
  | zero =>
    have:decide ((((0:Nat):Int) - 1)≥0)=false:=by decide
    simp -implicitDefEqProofs only[vQ,BD,↓reduceIte,jB,this,f7]
    rw[List.take_zero,qE,List.drop_zero] at ho
    refine⟨he,.inr ⟨?_,H.length,hlt,by rw[RU,hsl],ho⟩⟩
    intro e
    have:=RU (szs m c.pts) K
    rw[e] at this; simp at this; omega
  | succ j =>
    have hd:decide ((((j+1:Nat):Int) - 1)≥0)=true:=by simp
    have hj':j < c.pts.length:=by omega
    have hjs:j < (szs m c.pts).length:=by omega
    have hgt:(szs m c.pts)[j]=(IX m c.pts[j]).length:=IC (ZO m c.pts j hj')
    have h1:=(hs _ (jP hjs)).1
    rw[hgt] at h1
    obtain⟨s,ls⟩:=hh.ld hj' H'
    have e1:(((j+1:Nat):Int) - 1)=(j:Int):=by omega
    have hst:=tup_step (K:=K) hjs
    rw[hgt] at hst
    have hle:=AQX ((szs m c.pts).drop (j+1)) K
    generalize hr:(tupF ((szs m c.pts).drop (j+1)) K)=r at ho f2 hst hle
    have hrow : ∃ v,(((jZ c.pts.length 0).take (j+1)++r.1).map JI)[j]? = some [v]:=by
     refine⟨.int .i64 0,?_⟩
     rw[List.getElem?_map,List.getElem?_append_left (by simp; omega),List.getElem?_take_of_lt (by omega),List.getElem?_replicate_of_lt hj']
     rfl
    have hset:=AVV (f:=JI) (pre:=jZ c.pts.length 0) (out:=r.1) (j:=j) (x:=r.2 % (IX m c.pts[j]).length) (by simpa using hj')
    have hlo:=CJ ho
    simp -implicitDefEqProofs only[vQ,hd]
    refine EY (by kernel_rfl) ?_
    simp -implicitDefEqProofs only[vQ,BD,↓reduceIte,jB,jM,enP,PG,GU,IB,PE,IE,JH,jT,f2,f3,f4,f7,f8,e1,t'.lm,t'.l1,DN hj',CY ag3 hj',encI0,hh.ix hj',ls,jH,JR ho hj',AQ8 _ _ h1,AQ9 _ _ h1 (show r.2≤9223372036854775807 by omega),A3N ho hrow,hset]
    refine⟨j,by omega,j,rfl,by omega,trivial,trivial,trivial,?_,?_,⟨CV t'.gm ?_,CV t'.gc ?_,?_⟩,he.set hlt _,?_⟩
    ·rw[wrap_i64 (by omega) (by omega)]
    ·rw[hst]
    ·exact Nat.ne_of_lt (CJ t.gm)
    ·exact Nat.ne_of_lt (CJ t.gc)
    ·exact he.set hlt _
    ·rw[hst]; exact EG ho
 have hp:=PW AXJ hgo
 have hne:(tupF (szs m c.pts) K).1≠[]:=by
  intro e
  have:=RU (szs m c.pts) K
  rw[e] at this; simp at this; omega
 rw[AR9] at hp
 have hnm:nm (tupF (szs m c.pts) K).1=SM.any:=by
  cases hx:(tupF (szs m c.pts) K).1 with
  | nil=>exact absurd hx hne
  | cons a l=>rfl
 rw[hnm] at hp
 exact hp
structure Cvr where
 pm:SM
 pts:List Is
 cm:SM
 crs:List Is
 sam:Int
 ill:Int
def encV (v:Cvr):List AV := [.sl v.pm 1 (v.pts.map encL),.sl v.cm 1 (v.crs.map encL),.int .i64 v.sam,.int .i64 v.ill]
theorem A2X (v:Cvr):(encV v)[0]? = some (.sl v.pm 1 (v.pts.map encL)):=rfl
theorem A2W (v:Cvr):(encV v)[1]? = some (.sl v.cm 1 (v.crs.map encL)):=rfl
theorem A2V (v:Cvr):(encV v)[2]? = some (.int .i64 v.sam):=rfl
theorem A2U (v:Cvr):(encV v)[3]? = some (.int .i64 v.ill):=rfl
theorem encV_len (v:Cvr):(encV v).length=4:=rfl
theorem bxV (h:Hp)(v:Cvr):O7 h (.agg (encV v))=some (.ptr h.length 0 0,h++[.live 4 [encV v]]):=rfl
theorem ldV {h:Hp}{b:Nat}{v:Cvr}(hb:h[b]? = some (.live 4 [encV v])):D8 Tryz.prog h 81 (.ptr b 0 0)=some (.agg (encV v)):=by
 rw[IJ A75 ASS hb rfl (by rw[encV_len]; exact jL 4)]; rfl
def rowF (p:Nat→Bool):Nat→List Int→Bool
 | _,[]=>true
 | k,n :: ns=>countB n (p k) && rowF p (k+1) ns
theorem AHF (p:Nat→Bool)(l:List Int)(k:Nat)(hk:k < l.length):rowF p k (l.drop k)=(countB l[k] (p k) && rowF p (k+1) (l.drop (k+1))):=by
 rw[zK hk]; rfl
def MS {α:Type}(ok:α→Is→Bool):List α→List Is→Bool
 | [],[]=>true
 | a :: ws,x :: xs=>ok a x && MS ok ws xs
 | _,_=>false
theorem SE {α:Type}{ok:α→Is→Bool} : ∀ {ws:List α} {xs:List Is},MS ok ws xs=true→ws.length=xs.length
 | [],[],_=>rfl
 | a :: ws,x :: xs,h=>by
   simp only[MS,jX] at h
   simp [SE h.2]
 | [],_ :: _,h=>by cases h
 | _ :: _,[],h=>by cases h
theorem AH1 {α:Type}(ok:α→Is→Bool)(ws:List α)(xs:List Is)(k:Nat)(ha:k < ws.length)(hx:k < xs.length):MS ok (ws.drop k) (xs.drop k)=(ok ws[k] xs[k] && MS ok (ws.drop (k+1)) (xs.drop (k+1))):=by
 rw[zK ha,zK hx]; rfl
theorem AMO {α:Type}(ok:α→Is→Bool)(ws:List α)(xs:List Is)(k:Nat)(ha:ws.length≤k)(hx:xs.length≤k):MS ok (ws.drop k) (xs.drop k)=true:=by
 rw[jV ha,jV hx]; rfl
def kindOf (p:Pt)(k:Nat):Int:=match p.bins[k]? with
 | some b=>b.kind
 | none=>0
def okP (p:Pt)(x:Is):Bool:=(x.l.length == p.bins.length) && rowF (fun k=>kindOf p k == 0) 0 x.l
def okC (m:Mo)(c:Cr)(x:Is):Bool:=(x.l.length == H8 (szs m c.pts)) && rowF (fun k=>PH m c (O6 (szs m c.pts) k)) 0 x.l
structure CvOk (v:Cvr):Prop where
 pts:v.pts.length≤1048576
 crs:v.crs.length≤1048576
 eachP : ∀ x∈v.pts,x.l.length≤1048576
 eachC : ∀ x∈v.crs,x.l.length≤1048576
def VW (G:Nat→AV):Prop := ∀ (ns:List Nat) (s:SM) (K:Nat) (h:Hp),0 < ns.length→ns.length≤4→(∀ n∈ns,1≤n∧n≤64)→K≤1048576 →
 PCall (En G) 114 [.sl s 1 (ns.map JI),.int .i64 (K:Int)] h (.sl .any 1 ((O6 ns K).map qencI))
structure CrGood (m:Mo) (c:Cr):Prop where
 here:Here m c.pts
 two:2≤c.pts.length
 four:c.pts.length≤4
 prod:H8 (szs m c.pts)≤256
 num:c.excl.length≤256
 excl : ∀ x∈c.excl,JV (szs m c.pts) x.l=true
theorem AUD {m:Mo}{c:Cr}(h:IW m c=0):CrGood m c:=by
 unfold IW at h
 split at h
 ·cases h
 ·split at h
  ·cases h
  ·split at h
   ·cases h
   ·split at h
    ·cases h
    ·split at h
     ·cases h
     ·rename_i h1 h2 h3 h4 h5
      have h3':WV m.pts.length none c.pts=true:=by simpa using h3
      refine⟨XM h3',by omega,by omega,by omega,by omega,fun x hx => ?_⟩
      rw[yC,wS] at h5
      have:=h5 x hx
      simpa using this
structure Good (m:Mo):Prop where
 num:m.pts.length+m.crs.length≤16
 full:Full m
 crs : ∀ c∈m.crs,CrGood m c
theorem NY {m:Mo}(h:FX m=0):Good m:=by
 unfold FX at h
 split at h
 ·cases h
 ·split at h
  ·rename_i h2; exact absurd h h2
  ·split at h
   ·cases h
   ·split at h
    ·rename_i h4; exact absurd h h4
    ·rename_i h1 h2 h3 h4
     refine⟨by omega,full_of (by simpa using h2),fun c hc=>AUD (UY _ (by simpa using h4) c hc)⟩
def LC (m:Mo)(v:Cvr):Bool:=(FX m == 0) && MS okP m.pts v.pts && MS (okC m) m.crs v.crs && J7 v.sam && J7 v.ill
structure TwoV (h H:Hp) (m:Mo) (v:Cvr) (vb:Nat):Prop where
 gm:H[h.length]? = some (.live 2 [EE m])
 gv:H[vb]? = some (.live 4 [encV v])
 hx : ∃ x,H=h++x
theorem TwoV.mk' (h:Hp)(m:Mo)(v:Cvr):TwoV h (h++[.live 2 [EE m]]++[.live 4 [encV v]]) m v (h++[ABlk.live 2 [EE m]]).length:=⟨CX (CZ _ _),CZ _ _,⟨_,zH _ _ _⟩⟩
section
variable {h H:Hp} {m:Mo} {v:Cvr} {vb:Nat} (t:TwoV h H m v vb)
include t
theorem TwoV.m0:D8 Tryz.prog H 22 (.ptr h.length 0 0)=some (.sl m.pm 6 (m.pts.map GI)):=by rw[DY ZB t.gm (row:=EE m) rfl,SL]
theorem TwoV.m1:D8 Tryz.prog H 23 (.ptr h.length 0 1)=some (.sl m.cm 3 (m.crs.map GV)):=by rw[DY AB5 t.gm (row:=EE m) rfl,U2]
theorem TwoV.l0:D8 Tryz.prog H 67 (.ptr vb 0 0)=some (.sl v.pm 1 (v.pts.map encL)):=by rw[DY UE t.gv (row:=encV v) rfl,A2X]
theorem TwoV.l1:D8 Tryz.prog H 67 (.ptr vb 0 1)=some (.sl v.cm 1 (v.crs.map encL)):=by rw[DY UE t.gv (row:=encV v) rfl,A2W]
theorem TwoV.l2:D8 Tryz.prog H 3 (.ptr vb 0 2)=some (.int .i64 v.sam):=by rw[DY ag3 t.gv (row:=encV v) rfl,A2V]
theorem TwoV.l3:D8 Tryz.prog H 3 (.ptr vb 0 3)=some (.int .i64 v.ill):=by rw[DY ag3 t.gv (row:=encV v) rfl,A2U]
end
theorem AFQ (n:Int)(may:Bool):countB n may = !(!J7 n || (decide (n > 0) && !may)):=by
 unfold countB
 cases hw:J7 n
 ·rfl
 ·have h0:0≤n:=by
   unfold J7 at hw; simp at hw; exact hw.1
  cases may
  ·have:(n == 0) = !decide (n > 0):=by rw[Bool.eq_iff_iff]; simp; omega
   rw[this]; cases decide (n > 0) <;> rfl
  ·cases decide (n > 0) <;> rfl
set_option maxHeartbeats 1000000 in
theorem AXK (G:Nat→AV)(m:Mo)(v:Cvr)(hm:MoOk m)(hv:CvOk v)(h:Hp):PCall (En G) 120 [.agg (EE m),.agg (encV v)] h (.bool (LC m v)):=by
 refine ACalls.pure0 rfl ?_
 have hm1:=hm.np
 have hm2:=hm.nc
 refine acN Tryz.func120 rfl ?_
 show awp _ _ _ _ _ (EM _ [.tmp 4] _)
 have t:=TwoV.mk' h m v
 simp -implicitDefEqProofs only[vQ,BD,↓reduceIte,jB,enP,bxM,bxV]
 generalize h++[ABlk.live 2 [EE m]]++[ABlk.live 4 [encV v]]=H at t ⊢
 generalize (h++[ABlk.live 2 [EE m]]).length=vb at t ⊢
 have hlp:m.pts.length≠v.pts.length→MS okP m.pts v.pts=false:=fun hne=>by
  rw[← yC]; exact fun e=>hne (SE e)
 have hlc:m.crs.length≠v.crs.length→MS (okC m) m.crs v.crs=false:=fun hne=>by
  rw[← yC]; exact fun e=>hne (SE e)
 simp -implicitDefEqProofs only[vQ,BD,↓reduceIte,ldM t.gm]
 refine(RH G m hm _).use ?_
 simp -implicitDefEqProofs only[vQ,CP,BD,↓reduceIte,enP,bne]
 cases h1:(FX m == 0)
 ·simp -implicitDefEqProofs only[vQ,CP,BD,EW,↓reduceIte,jB]
  exact⟨by unfold LC; rw[h1]; rfl,t.hx⟩
 have hg:=NY (beq_iff_eq.1 h1)
 simp -implicitDefEqProofs only[vQ,CP,BD,↓reduceIte,jB,jU,enP,OE,GU,AC0,OO,t.m0,t.l0,jH,bne]
 cases h2:((v.pts.length:Int) == (m.pts.length:Int))
 ·simp -implicitDefEqProofs only[vQ,CP,BD,EW,↓reduceIte,jB]
  have:=hlp (by simp at h2; omega)
  exact⟨by unfold LC; rw[this]; simp,t.hx⟩
 have h2':v.pts.length=m.pts.length:=by simp at h2; omega
 simp -implicitDefEqProofs only[vQ,CP,BD,↓reduceIte,jB,jU,enP,UU,IV,AC0,N8,t.m1,t.l1,jH,bne]
 cases h3:((v.crs.length:Int) == (m.crs.length:Int))
 ·simp -implicitDefEqProofs only[vQ,CP,BD,EW,↓reduceIte,jB]
  have:=hlc (by simp at h3; omega)
  exact⟨by unfold LC; rw[this]; simp,t.hx⟩
 have h3':v.crs.length=m.crs.length:=by simp at h3; omega
 simp -implicitDefEqProofs only[vQ,CP,BD,↓reduceIte,jB,jU,enP,AJQ,t.l2]
 refine(VD G _ _).use ?_
 simp -implicitDefEqProofs only[vQ,CP,BD,↓reduceIte,jB]
 cases h4:J7 v.sam
 ·simp -implicitDefEqProofs only[vQ,CP,BD,EW,↓reduceIte,jB]
  exact⟨by unfold LC; rw[h4]; simp,t.hx⟩
 simp -implicitDefEqProofs only[vQ,CP,BD,↓reduceIte,jB,jU,enP,AJP,t.l3]
 refine(VD G _ _).use ?_
 simp -implicitDefEqProofs only[vQ,CP,BD,↓reduceIte,jB]
 cases h5:J7 v.ill
 ·simp -implicitDefEqProofs only[vQ,BD,↓reduceIte]
  exact⟨by unfold LC; rw[h5]; simp,t.hx⟩
 have hfb:LC m v=(MS okP m.pts v.pts && MS (okC m) m.crs v.crs):=by unfold LC; rw[h1,h4,h5]; simp
 rw[hfb]
 simp -implicitDefEqProofs only[vQ,BD,jU]
 refine GZ 0 (fun F H'=>F 2 = .ptr h.length 0 0∧F 3 = .ptr vb 0 0∧H'=H∧MS okP m.pts v.pts=true) (fun F H'=>F 4 = .bool false∧H'=H∧MS okP m.pts v.pts=false) ?_ ?_ ?_
 ·refine DL (fun n F H' => ∃ i,n+i=m.pts.length∧F 2 = .ptr h.length 0 0∧F 3 = .ptr vb 0 0∧F 5 = .int .i64 (i:Nat)∧H'=H∧MS okP m.pts v.pts=MS okP (m.pts.drop i) (v.pts.drop i)) m.pts.length ⟨0,by simp,by simp -implicitDefEqProofs only[AA,↓reduceIte,jB],by simp -implicitDefEqProofs only[AA,↓reduceIte,jB],by simp -implicitDefEqProofs only[AA,↓reduceIte]; rfl,rfl,rfl⟩ ?_
  rintro n F H' ⟨i,hi,f2,f3,f5,rfl,hf⟩
  simp -implicitDefEqProofs only[vQ,BD,↓reduceIte,jB,enP,OE,GU,f2,f5,t.m0,jH]
  refine CU (fun hc => ?_) (fun hc => ?_)
  ·have hi':i < m.pts.length:=by simpa using hc
   have hil:i < v.pts.length:=by omega
   rw[AH1 okP m.pts v.pts i hi' hil] at hf
   have hxl:=hv.eachP _ (jP hil)
   simp -implicitDefEqProofs only[vQ]
   refine EY (by kernel_rfl) ?_
   simp -implicitDefEqProofs only[vQ,↓reduceIte,jB,jM,enP,PG,GU,IZ,PE,IE,PO,OO,f2,f3,f5,t.m0,t.l0,DN hil,DN hi',CY KO hil,PT,CY RD hi',NG,jH]
   refine CU (fun h6 => ?_) (fun h6 => ?_)
   ·simp -implicitDefEqProofs only[vQ,BD,↓reduceIte]
    have:okP m.pts[i] v.pts[i]=false:=by
     have:(v.pts[i].l.length == m.pts[i].bins.length)=false:=by
      rw[beq_eq_false_iff_ne]; intro e; simp [e] at h6
     unfold okP; rw[this]; rfl
    exact⟨trivial,trivial,by rw[hf,this]; rfl⟩
   have hbl:v.pts[i].l.length=m.pts[i].bins.length:=by simp at h6; omega
   have hok:okP m.pts[i] v.pts[i]=rowF (fun k=>kindOf m.pts[i] k == 0) 0 v.pts[i].l:=by
    unfold okP; rw[beq_iff_eq.2 hbl]; rfl
   simp -implicitDefEqProofs only[vQ,BD]
   refine GZ 2 (fun F' H=>F' 2 = .ptr h.length 0 0∧F' 3 = .ptr vb 0 0∧F' 5 = .int .i64 (i:Nat)∧H=H'∧okP m.pts[i] v.pts[i]=true) (fun F' H=>F' 4 = .bool false∧H=H'∧okP m.pts[i] v.pts[i]=false) ?_ ?_ ?_
   ·refine DL (fun n F' H => ∃ k,n+k=v.pts[i].l.length∧F' 2 = .ptr h.length 0 0∧F' 3 = .ptr vb 0 0∧F' 5 = .int .i64 (i:Nat)∧F' 6 = .int .i64 (k:Nat)∧H=H'∧okP m.pts[i] v.pts[i]=rowF (fun k=>kindOf m.pts[i] k == 0) k (v.pts[i].l.drop k)) v.pts[i].l.length ⟨0,by simp,by simp -implicitDefEqProofs only[AA,↓reduceIte,jB,f2],by simp -implicitDefEqProofs only[AA,↓reduceIte,jB,f3],by simp -implicitDefEqProofs only[AA,↓reduceIte,jB,f5],by simp -implicitDefEqProofs only[AA,↓reduceIte]; rfl,rfl,hok⟩ ?_
    clear f2 f3 f5
    rintro n' F H' ⟨k,hk,f2,f3,f5,f6,rfl,hr⟩
    simp -implicitDefEqProofs only[vQ,BD,↓reduceIte,jB,enP,IZ,PO,OO,f3,f5,f6,t.l0,DN hil,CY KO hil,PT,jH]
    refine CU (fun hc => ?_) (fun hc => ?_)
    ·have hk':k < v.pts[i].l.length:=by simpa using hc
     have hkb:k < m.pts[i].bins.length:=by omega
     have hkd:kindOf m.pts[i] k=(m.pts[i].bins[k]).kind:=by unfold kindOf; rw[jS hkb]
     rw[AHF _ _ _ hk',hkd,AFQ] at hr
     simp -implicitDefEqProofs only[vQ,BD,↓reduceIte,jB,enP,IB,PO,OO,f3,f5,f6,t.l0,DN hil,CY KO hil,PT,DN hk',CY ag3 hk',encI0]
     refine(VD G _ _).use ?_
     simp -implicitDefEqProofs only[vQ,CP,BD,↓reduceIte]
     cases hw:J7 v.pts[i].l[k]
     ·simp -implicitDefEqProofs only[vQ,CP,BD,EW,↓reduceIte,jB]
      exact⟨trivial,trivial,by rw[hr,hw]; rfl⟩
     rw[hw] at hr
     simp -implicitDefEqProofs only[vQ,CP,BD,↓reduceIte,jB,jU,enP]
     cases hp:decide (v.pts[i].l[k] > 0)
     ·simp -implicitDefEqProofs only[vQ,CP,BD,EW,↓reduceIte,jB,enP,f6,wrap_succ (show k < 9223372036854775807 by omega)]
      exact⟨n' - 1,by omega,k+1,by omega,f2,f3,f5,rfl,trivial,by rw[hr,hp]; rfl⟩
     rw[hp] at hr
     simp -implicitDefEqProofs only[vQ,CP,BD,↓reduceIte,jB,enP,PG,GU,SA,IE,ND,f2,f5,f6,t.m0,DN hi',CY RD hi',NG,DN hkb,CY ag3 hkb,QV,bne]
     cases hz:(m.pts[i].bins[k].kind == 0)
     ·simp -implicitDefEqProofs only[vQ,BD,↓reduceIte]
      exact⟨trivial,trivial,by rw[hr,hz]; rfl⟩
     ·simp -implicitDefEqProofs only[vQ,BD,↓reduceIte,jB,jU,enP,f6,wrap_succ (show k < 9223372036854775807 by omega)]
      exact⟨n' - 1,by omega,k+1,by omega,f2,f3,f5,rfl,trivial,by rw[hr,hz]; rfl⟩
    ·have hk' : ¬ k < v.pts[i].l.length:=by simpa using hc
     simp -implicitDefEqProofs only[vQ,↓reduceIte,jB]
     exact⟨f2,f3,f5,trivial,by rw[hr,jV (by omega)]; rfl⟩
   ·rintro F' H' ⟨g2,g3,g5,rfl,hr⟩
    simp -implicitDefEqProofs only[vQ,BD,↓reduceIte,jB,enP,g5,wrap_succ (show i < 9223372036854775807 by omega)]
    exact⟨n - 1,by omega,i+1,by omega,g2,g3,rfl,trivial,by rw[hf,hr]; rfl⟩
   ·rintro F' H' ⟨g4,rfl,hr⟩
    simp -implicitDefEqProofs only[vQ,g4]
    exact⟨trivial,trivial,by rw[hf,hr]; rfl⟩
  ·have hi' : ¬ i < m.pts.length:=by simpa using hc
   simp -implicitDefEqProofs only[vQ,↓reduceIte,jB]
   exact⟨f2,f3,trivial,by rw[hf,AMO okP _ _ i (by omega) (by omega)]⟩
 ·rintro F H' ⟨f2,f3,rfl,hfp⟩
  rw[hfp,Bool.true_and]
  simp -implicitDefEqProofs only[vQ,BD,↓reduceIte]
  refine DL (fun n F H => ∃ i,n+i=m.crs.length∧F 2 = .ptr h.length 0 0∧F 3 = .ptr vb 0 0∧F 8 = .int .i64 (i:Nat)∧H=H'∧MS (okC m) m.crs v.crs=MS (okC m) (m.crs.drop i) (v.crs.drop i)) m.crs.length ⟨0,by simp,by simp -implicitDefEqProofs only[AA,↓reduceIte,jB,f2],by simp -implicitDefEqProofs only[AA,↓reduceIte,jB,f3],by simp -implicitDefEqProofs only[AA,↓reduceIte]; rfl,rfl,rfl⟩ ?_
  clear f2 f3
  rintro n F H' ⟨i,hi,f2,f3,f8,rfl,hf⟩
  simp -implicitDefEqProofs only[vQ,BD,↓reduceIte,jB,enP,UU,IV,f2,f8,t.m1,jH]
  refine CU (fun hc => ?_) (fun hc => ?_)
  ·have hi':i < m.crs.length:=by simpa using hc
   have hil:i < v.crs.length:=by omega
   rw[AH1 (okC m) m.crs v.crs i hi' hil] at hf
   have hxl:=hv.eachC _ (jP hil)
   have hcg:=hg.crs _ (jP hi')
   have hfs:=hg.full.szs hcg.here
   have htwo:=hcg.two
   have hfour:=hcg.four
   have hpr:=hcg.prod
   have hnum:=hcg.num
   have hmin:min (H8 (szs m m.crs[i].pts):Int) 1000=(H8 (szs m m.crs[i].pts):Int):=by omega
   simp -implicitDefEqProofs only[vQ]
   refine EY (by kernel_rfl) ?_
   simp -implicitDefEqProofs only[vQ,↓reduceIte,jB,jM,enP,P5,IV,IZ,PO,N8,f2,f3,f8,t.m1,t.l1,ldM t.gm,DN hil,DN hi',CY KO hil,PT,FU AAZ XV KH hi',jH]
   refine⟨_,XQ G m m.crs[i] _ hcg.here hg.full (by omega),?_⟩
   rw[hmin]
   try simp -implicitDefEqProofs only[vQ,↓reduceIte]
   refine CU (fun h6 => ?_) (fun h6 => ?_)
   ·simp -implicitDefEqProofs only[vQ,BD,↓reduceIte]
    have:okC m m.crs[i] v.crs[i]=false:=by
     have:(v.crs[i].l.length == H8 (szs m m.crs[i].pts))=false:=by
      rw[beq_eq_false_iff_ne]; intro e; simp [e] at h6
     unfold okC; rw[this]; rfl
    exact⟨by rw[hf,this]; rfl,t.hx⟩
   have hbl:v.crs[i].l.length=H8 (szs m m.crs[i].pts):=by simp at h6; omega
   have hok:okC m m.crs[i] v.crs[i]=rowF (fun k=>PH m m.crs[i] (O6 (szs m m.crs[i].pts) k)) 0 v.crs[i].l:=by
    unfold okC; rw[beq_iff_eq.2 hbl]; rfl
   simp -implicitDefEqProofs only[vQ,BD]
   refine GZ 6 (fun F' H=>F' 2 = .ptr h.length 0 0∧F' 3 = .ptr vb 0 0∧F' 8 = .int .i64 (i:Nat)∧H=H'∧okC m m.crs[i] v.crs[i]=true) (fun F' H=>F' 4 = .bool false∧H=H'∧okC m m.crs[i] v.crs[i]=false) ?_ ?_ ?_
   ·refine DL (fun n F' H => ∃ k,n+k=v.crs[i].l.length∧F' 2 = .ptr h.length 0 0∧F' 3 = .ptr vb 0 0∧F' 8 = .int .i64 (i:Nat)∧F' 9 = .int .i64 (k:Nat)∧H=H'∧okC m m.crs[i] v.crs[i]=rowF (fun k=>PH m m.crs[i] (O6 (szs m m.crs[i].pts) k)) k (v.crs[i].l.drop k)) v.crs[i].l.length ⟨0,by simp,by simp -implicitDefEqProofs only[AA,↓reduceIte,jB,f2],by simp -implicitDefEqProofs only[AA,↓reduceIte,jB,f3],by simp -implicitDefEqProofs only[AA,↓reduceIte,jB,f8],by simp -implicitDefEqProofs only[AA,↓reduceIte]; rfl,rfl,hok⟩ ?_
    clear f2 f3 f8
    rintro n' F H' ⟨k,hk,f2,f3,f8,f9,rfl,hr⟩
    simp -implicitDefEqProofs only[vQ,BD,↓reduceIte,jB,enP,IZ,PO,N8,f3,f8,f9,t.l1,DN hil,CY KO hil,PT,jH]
    refine CU (fun hc => ?_) (fun hc => ?_)
    ·have hk':k < v.crs[i].l.length:=by simpa using hc
     rw[AHF _ _ _ hk',AFQ] at hr
     simp -implicitDefEqProofs only[vQ,BD,↓reduceIte,jB,enP,IB,PO,N8,f3,f8,f9,t.l1,DN hil,CY KO hil,PT,DN hk',CY ag3 hk',encI0]
     refine EY (by kernel_rfl) ?_
     simp -implicitDefEqProofs only[vQ,AGI,↓reduceIte,jM]
     refine⟨_,VD G _ _,?_⟩
     try simp -implicitDefEqProofs only[vQ,CP,↓reduceIte,jM]
     cases hw:J7 v.crs[i].l[k]
     ·simp -implicitDefEqProofs only[vQ,AA4,A2C,CP,BD,EW,↓reduceIte,jB,jM]
      exact⟨trivial,trivial,by rw[hr,hw]; rfl⟩
     rw[hw] at hr
     simp -implicitDefEqProofs only[vQ,SY,CP,↓reduceIte,jB,jM,jU,enP]
     cases hp:decide (v.crs[i].l[k] > 0)
     ·simp -implicitDefEqProofs only[vQ,SY,AA3,CP,BD,EW,↓reduceIte,jB,jM,enP,f9,wrap_succ (show k < 9223372036854775807 by omega)]
      exact⟨n' - 1,by omega,k+1,by omega,f2,f3,f8,rfl,trivial,by rw[hr,hp]; rfl⟩
     rw[hp] at hr
     simp -implicitDefEqProofs only[vQ,QN,AGI,CP,↓reduceIte,jB,jM,enP,P5,IV,f2,f8,f9,t.m1,ldM t.gm,DN hi',FU AAZ XV KH hi']
     refine⟨_,AG8 G m m.crs[i] k _ hcg.here hg.full (by omega) (by omega) (by omega),?_⟩
     try simp -implicitDefEqProofs only[]
     refine⟨_,AFP G m m.crs[i] _ _ _ hcg.here (ZL _ _ fun n hn=>(hfs n hn).1) (by omega) (by omega),?_⟩
     try simp -implicitDefEqProofs only[vQ,SY,CP,↓reduceIte,jB,jM]
     cases hz:PH m m.crs[i] (O6 (szs m m.crs[i].pts) k)
     ·simp -implicitDefEqProofs only[vQ,BD,↓reduceIte]
      exact⟨trivial,trivial,by rw[hr,hz]; rfl⟩
     ·simp -implicitDefEqProofs only[vQ,BD,↓reduceIte,jB,jU,enP,f9,wrap_succ (show k < 9223372036854775807 by omega)]
      exact⟨n' - 1,by omega,k+1,by omega,f2,f3,f8,rfl,trivial,by rw[hr,hz]; rfl⟩
    ·have hk' : ¬ k < v.crs[i].l.length:=by simpa using hc
     simp -implicitDefEqProofs only[vQ,↓reduceIte,jB]
     exact⟨f2,f3,f8,trivial,by rw[hr,jV (by omega)]; rfl⟩
   ·rintro F' H' ⟨g2,g3,g8,rfl,hr⟩
    simp -implicitDefEqProofs only[vQ,BD,↓reduceIte,jB,enP,g8,wrap_succ (show i < 9223372036854775807 by omega)]
    exact⟨n - 1,by omega,i+1,by omega,g2,g3,rfl,trivial,by rw[hf,hr]; rfl⟩
   ·rintro F' H' ⟨g4,rfl,hr⟩
    simp -implicitDefEqProofs only[vQ,g4]
    exact⟨by rw[hf,hr]; rfl,t.hx⟩
  ·have hi' : ¬ i < m.crs.length:=by simpa using hc
   simp -implicitDefEqProofs only[vQ,BD,↓reduceIte]
   exact⟨by rw[hf,AMO (okC m) _ _ i (by omega) (by omega)],t.hx⟩
 ·rintro F H' ⟨f4,rfl,hfp⟩
  simp -implicitDefEqProofs only[vQ,f4]
  exact⟨by rw[hfp]; rfl,t.hx⟩
theorem AO5 (G:Nat→AV)(xs:List Int)(m:SM)(fid:FuncId)(caps:List AV)(p:Int→Bool)(h:Hp)(hl:xs.length≤1099511627776)
  (hf : ∀ r,PCall (En G) fid (.int .i64 r :: caps) h (.bool (p r))) :
  PCall (En G) 163 [.sl m 1 (xs.map qencI),.fn (.func fid) [] caps] h (.int .i64 (match xs.findIdx? p with | some i=>(i:Int) | none => -1)):=by
 refine acN Tryz.func163 rfl ?_
 show awp _ _ _ _ _ (EM _ [.tmp 4] _)
 simp -implicitDefEqProofs only[vQ,BD,↓reduceIte,jB,enP,IZ,jH]
 refine DL (fun n F H => ∃ k,n+k=xs.length∧F 0 = .sl m 1 (xs.map qencI)∧F 1 = .fn (.func fid) [] caps∧F 7 = .int .i64 xs.length∧F 8 = .int .i64 (k:Nat)∧H=h∧(xs.take k).all (fun r => !p r)=true) xs.length ⟨0,by simp,rfl,rfl,rfl,rfl,rfl,rfl⟩ ?_
 rintro n F H ⟨k,hk,f0,f1,f7,f8,rfl,hin⟩
 simp -implicitDefEqProofs only[vQ,BD,↓reduceIte,enP,f0,f1,f7,f8,jH]
 refine CU (fun hc => ?_) (fun hc => ?_)
 ·have hc':k < xs.length:=by simpa using hc
  simp -implicitDefEqProofs only[vQ,BD,qE,List.cons_append,↓reduceIte,jB,enP,IB,f0,f1,f7,f8,DN hc',CY ag3 hc',encI0]
  refine(hf _).use ?_
  simp -implicitDefEqProofs only[vQ,↓reduceIte]
  refine CU (fun hb => ?_) (fun hb => ?_)
  ·simp -implicitDefEqProofs only[vQ,BD,↓reduceIte,jB]
   refine⟨?_,trivial⟩
   rw[qZ.2 ⟨hc',hb,fun j hj=>by
    rw[List.all_eq_true] at hin
    have:=hin xs[j] (by rw[List.mem_take_iff_getElem]; exact⟨j,by omega,rfl⟩)
    simpa using this⟩]
  ·simp -implicitDefEqProofs only[vQ,BD,↓reduceIte,jB,enP,f8,wrap_succ (show k < 9223372036854775807 by omega)]
   refine⟨n - 1,by omega,k+1,by omega,f0,f1,f7,rfl,trivial,?_⟩
   rw[zN hc',List.all_append,hin]
   simp only[List.all_cons,List.all_nil,hb]; rfl
 ·have hc' : ¬ k < xs.length:=by simpa using hc
  simp -implicitDefEqProofs only[vQ,BD,↓reduceIte]
  refine⟨?_,trivial⟩
  rw[jW (by omega)] at hin
  rw[wC.2 (by simpa using hin)]
theorem AG0 (G:Nat→AV)(xs:List Int)(m:SM)(fid:FuncId)(caps:List AV)(p:Int→Bool)(h:Hp)(hl:xs.length≤1099511627776)
  (hf : ∀ r,PCall (En G) fid (.int .i64 r :: caps) h (.bool (p r))) :
  PCall (En G) 118 [.sl m 1 (xs.map qencI),.fn (.func fid) [] caps] h (.bool (xs.any p)):=by
 refine acN Tryz.func118 rfl ?_
 show awp _ _ _ _ _ (EM _ [.tmp 4] _)
 simp -implicitDefEqProofs only[vQ,BD,↓reduceIte,jB,enP]
 refine(AO5 G xs m fid caps p h hl hf).use ?_
 simp -implicitDefEqProofs only[vQ,BD,↓reduceIte,enP]
 refine⟨?_,trivial⟩
 cases hx:xs.findIdx? p with
 | some i =>
   obtain⟨h1,h2,_⟩:=qZ.1 hx
   have:xs.any p=true:=List.any_eq_true.2 ⟨xs[i],by simp,h2⟩
   simp [this]
 | none =>
   have:xs.any p=false:=by
    rw[wC] at hx
    rw[wS]; intro x hx2; simp [hx x hx2]
   simp [this]
theorem TC {h:Hp}{b:Nat}{m:Mo}(hb:h[b]? = some (.live 2 [EE m])):D8 Tryz.prog h 22 (.ptr b 0 0)=some (.sl m.pm 6 (m.pts.map GI)):=by rw[DY ZB hb (row:=EE m) rfl,SL]
theorem XW {h:Hp}{b:Nat}{m:Mo}(hb:h[b]? = some (.live 2 [EE m])):D8 Tryz.prog h 23 (.ptr b 0 1)=some (.sl m.cm 3 (m.crs.map GV)):=by rw[DY AB5 hb (row:=EE m) rfl,U2]
theorem AOS (G:Nat→AV)(m:Mo)(b:Nat)(p:Int)(h:Hp)(hb:h[b]? = some (.live 2 [EE m])):PCall (En G) 117 [.int .i64 p,.ptr b 0 0] h (.bool (decide (p < 0) || decide (p≥(m.pts.length:Int)))):=by
 refine acN Tryz.func117 rfl ?_
 show awp _ _ _ _ _ (EM _ [.tmp 3] _)
 simp -implicitDefEqProofs only[vQ,CP,BD,↓reduceIte,jB,enP]
 cases ha:decide (p < 0)
 ·simp -implicitDefEqProofs only[vQ,Bool.false_or,CP,BD,↓reduceIte,jB,enP,OE,GU,TC hb,jH]
  exact⟨by simp,trivial⟩
 ·simp -implicitDefEqProofs only[vQ,Bool.true_or,CP,BD,EW,↓reduceIte,jB]
  exact⟨by simp,trivial⟩
theorem AXF {m:Mo}{l:List Int}(hh:Here m l):(l.any fun p=>decide (p < 0) || decide (p≥(m.pts.length:Int)))=false:=by
 rw[wS]
 intro p hp
 have:=hh p hp
 simp; omega
theorem ACB (G:Nat→AV)(m:Mo)(i:Nat)(hi:i < m.crs.length)(hg:CrGood m m.crs[i])(h:Hp):PCall (En G) 77 [.agg (EE m),.int .i64 (i:Int)] h (.bool true):=by
 refine ACalls.pure0 rfl ?_
 have hfour:=hg.four
 refine acN Tryz.func77 rfl ?_
 show awp _ _ _ _ _ (EM _ [.tmp 4] _)
 have d0:decide ((i:Int) < 0)=false:=by simp
 have d1:decide ((i:Int)≥(m.crs.length:Int))=false:=by simp; omega
 simp -implicitDefEqProofs only[vQ,CP,BD,I5,↓reduceIte,jB,enP,P5,UU,IV,JH,bxM,d0,DW AB5,U2,jH,d1,DN hi,CY KO hi,QJ]
 refine(AG0 G m.crs[i].pts m.crs[i].pm 117 _ _ _ (by omega) fun r=>AOS G m _ r _ (CZ _ _)).use ?_
 simp -implicitDefEqProofs only[vQ,BD,↓reduceIte,AXF hg.here]
 exact⟨trivial,_,rfl⟩
theorem AAU (G:Nat→AV)(m:Mo)(i:Nat)(hi:i < m.crs.length)(hg:CrGood m m.crs[i])(h:Hp):PCall (En G) 78 [.agg (EE m),.int .i64 (i:Int)] h (.sl .any 1 ((szs m m.crs[i].pts).map JI)):=by
 have hfour:=hg.four
 have htwo:=hg.two
 have hh:=hg.here
 have hp:PCall (En G) 78 [.agg (EE m),.int .i64 (i:Int)] h (.sl (nm (szs m m.crs[i].pts)) 1 ((szs m m.crs[i].pts).map JI)):=by
  refine PW AXJ ?_
  refine acN Tryz.func78 rfl ?_
  show awp _ _ _ _ _ (EM _ [.tmp 4] _)
  simp -implicitDefEqProofs only[vQ,BD,↓reduceIte,jB,enP,P5,IV,IZ,JH,bxM,DW AB5,U2,DN hi,CY KO hi,QJ,jH]
  refine DL (fun n F H => ∃ k,n+k=m.crs[i].pts.length∧F 2 = .ptr h.length 0 0∧F 13 = .sl m.crs[i].pm 1 (m.crs[i].pts.map qencI)∧F 14 = .int .i64 m.crs[i].pts.length∧F 15 = .int .i64 (k:Nat)∧H[h.length]? = some (.live 2 [EE m])∧ext h H∧(∀ b,isB (F 5) b→h.length < b)∧outG 1 JI h (szs m (m.crs[i].pts.take k)) (F 5) H) m.crs[i].pts.length ⟨0,by simp,by simp -implicitDefEqProofs only[AA,↓reduceIte,jB],by simp -implicitDefEqProofs only[AA,↓reduceIte,jB],by simp -implicitDefEqProofs only[AA,↓reduceIte,jB],by simp -implicitDefEqProofs only[AA,↓reduceIte]; rfl,CZ _ _,(ext.rfl' h).app _,fun b hb=>hb.elim,outG.nil _ _ _ _⟩ ?_
  rintro n F H ⟨k,hk,f2,f13,f14,f15,hb,he,hlt,ho⟩
  simp -implicitDefEqProofs only[vQ,BD,↓reduceIte,enP,f14,f15]
  refine CU (fun hc => ?_) (fun hc => ?_)
  ·have hk':k < m.crs[i].pts.length:=by simpa using hc
   obtain⟨s,ls⟩:=hh.ld hk' H
   have hzl:(szs m (m.crs[i].pts.take k)).length < 8388608:=by unfold szs; simp; omega
   obtain⟨v',H',ha,ho',hkeep,he',hle,hb'⟩:=ho.append VF sz3 YL XC (by omega) hzl he (IX m m.crs[i].pts[k]).length
   simp -implicitDefEqProofs only[vQ,BD,↓reduceIte,jB,enP,PG,GU,IB,PE,IE,f2,f13,f15,DN hk',CY ag3 hk',encI0,TC hb,hh.ix hk',ls,jH,AG2]
   refine KQ (v:=v') (h:=H') (by rw[show [[AV.int .i64 ((IX m m.crs[i].pts[k]).length:Int)]] = [JI (IX m m.crs[i].pts[k]).length] from rfl,ha]) ?_
   simp -implicitDefEqProofs only[vQ,BD,↓reduceIte,jB,enP,f15,wrap_succ (show k < 9223372036854775807 by omega)]
   refine⟨n - 1,by omega,k+1,by omega,f2,f13,f14,rfl,hkeep _ _ hb (fun e=>by have:=hlt _ e; omega),he',fun b hbb => ?_,?_⟩
   ·have:=hb' b hbb; have:=CJ hb; omega
   ·rw[AKP m m.crs[i].pts k hk']; exact ho'
  ·have hk' : ¬ k < m.crs[i].pts.length:=by simpa using hc
   rw[jW (by omega)] at ho
   simp -implicitDefEqProofs only[vQ,BD,↓reduceIte,jB]
   exact⟨he,ho⟩
 have hnm:nm (szs m m.crs[i].pts)=SM.any:=by
  have:=LG m m.crs[i].pts
  cases hx:szs m m.crs[i].pts with
  | nil=>rw[hx] at this; simp at this; omega
  | cons a l=>rfl
 rw[hnm] at hp
 exact hp
def V5:List Nat→List Int→Int→Int
 | n :: ns,x :: xs,z=>V5 ns xs (IntKind.i64.wrap (IntKind.i64.wrap (z * (n:Int))+x))
 | _,_,z=>z
theorem AAF (ns:List Nat)(z:Int):V5 ns [] z=z:=by cases ns <;> rfl
theorem AEW : ∀ {ns:List Nat} {l:List Int},JV ns l=true→∀ (k:Nat) (hk:k < l.length) (hp:k < ns.length),0≤l[k]∧l[k] < (ns[k]:Int)
 | n :: ns,b :: bs,h,k,hk,hp=>by
   simp only[JV,jX,decide_eq_true_eq] at h
   cases k with
   | zero=>exact h.1
   | succ k=>exact AEW (ns:=ns) h.2 k (by simpa using hk) (by simpa using hp)
 | [],b :: bs,h,k,hk,hp=>by simp at hp
 | _,[],h,k,hk,hp=>by simp at hk
theorem AJF (G:Nat→AV)(m:Mo)(i:Nat)(hi:i < m.crs.length)(hg:CrGood m m.crs[i])(l:List Int)(s:SM)(hin:JV (szs m m.crs[i].pts) l=true)(h:Hp):PCall (En G) 44 [.agg (EE m),.int .i64 (i:Int),.sl s 1 (l.map qencI)] h (.tup [.int .i64 (V5 (szs m m.crs[i].pts) l 0),.bool true]):=by
 have hfour:=hg.four
 have hsl:=LG m m.crs[i].pts
 have hlen:=MR hin
 refine ACalls.pure 2 (R:=fun v H=>v = .tup [.int .i64 (V5 (szs m m.crs[i].pts) l 0),.bool true]∧∃ x,H=h++x) ?_ (fun v h' ⟨e,x⟩=>⟨x,by subst e; rfl⟩)
 have hx : ∃ x,h++[ABlk.live 2 [EE m]]=h++x:=⟨_,rfl⟩
 refine acN Tryz.func44 rfl ?_
 show awp _ _ _ _ _ (EM _ [.tmp 6,.tmp 7] _)
 simp -implicitDefEqProofs only[vQ,BD,↓reduceIte,jB,enP,bxM,ldM (CZ h (.live 2 [EE m]))]
 refine(ACB G m i hi hg _).use ?_
 simp -implicitDefEqProofs only[vQ,BD,↓reduceIte,jB,jU,enP,ldM (CZ h (.live 2 [EE m]))]
 refine(AAU G m i hi hg _).use ?_
 generalize szs m m.crs[i].pts=ns at hin hsl hlen ⊢
 have hne:((l.length:Int) != (ns.length:Int))=false:=by rw[hlen]; simp
 simp -implicitDefEqProofs only[vQ,BD,↓reduceIte,jB,enP,IZ,jH,hne]
 refine DL (fun n F H => ∃ k,n+k=l.length∧F 8 = .sl .any 1 (ns.map JI)∧(∃ z,F 9 = .int .i64 z∧V5 ns l 0=V5 (ns.drop k) (l.drop k) z)∧F 24 = .sl s 1 (l.map qencI)∧F 25 = .int .i64 l.length∧F 26 = .int .i64 (k:Nat)∧H=h++[ABlk.live 2 [EE m]]) l.length ⟨0,by simp,by simp -implicitDefEqProofs only[AA,↓reduceIte,jB],⟨0,rfl,rfl⟩,by simp -implicitDefEqProofs only[AA,↓reduceIte,jB],by simp -implicitDefEqProofs only[AA,↓reduceIte,jB],by simp -implicitDefEqProofs only[AA,↓reduceIte]; rfl,rfl⟩ ?_
 rintro n F H ⟨k,hk,f8,⟨z,f9,hz⟩,f24,f25,f26,rfl⟩
 simp -implicitDefEqProofs only[vQ,BD,↓reduceIte,enP,f25,f26]
 refine CU (fun hc => ?_) (fun hc => ?_)
 ·have hk':k < l.length:=by simpa using hc
  have hkn:k < ns.length:=by omega
  obtain⟨h0,h1⟩:=AEW hin k hk' hkn
  have d0:decide (l[k] < 0)=false:=by simp; omega
  have d1:decide (l[k]≥(ns[k]:Int))=false:=by simp; omega
  rw[zK hk',zK hkn] at hz
  simp -implicitDefEqProofs only[vQ,CP,BD,OJ,↓reduceIte,jB,enP,IB,f8,f9,f24,f26,DN hk',CY ag3 hk',encI0,d0,DN hkn,CY ag3 hkn,encN0,d1,wrap_succ (show k < 9223372036854775807 by omega)]
  exact⟨n - 1,by omega,k+1,by omega,trivial,⟨_,rfl,hz⟩,trivial,f25,rfl,trivial⟩
 ·have hk' : ¬ k < l.length:=by simpa using hc
  rw[jV (show l.length≤k by omega),AAF] at hz
  simp -implicitDefEqProofs only[vQ,BD,↓reduceIte,jB,f9,hz]
  exact⟨trivial,hx⟩
theorem AMS (G:Nat→AV)(l:List Int)(s:SM)(b:Nat)(r:Is)(h:Hp)(hb:h[b]? = some (.live 1 [[.sl s 1 (l.map qencI)]]))(hl:l.length≤1099511627776) :
  PCall (En G) 91 [.sl r.m 1 (r.l.map qencI),.ptr b 0 0] h (.bool (eqL r.l l)):=by
 refine acN Tryz.func91 rfl ?_
 show awp _ _ _ _ _ (EM _ [.tmp 3] _)
 simp -implicitDefEqProofs only[vQ,BD,↓reduceIte,jB,enP,J8 KO hb]
 refine(AFH G r.l l r.m s h hl).use ?_
 simp -implicitDefEqProofs only[vQ,BD,↓reduceIte]
 exact⟨trivial,trivial⟩
theorem AGW (G:Nat→AV)(m:Mo)(i:Nat)(hi:i < m.crs.length)(hg:CrGood m m.crs[i])(l:List Int)(s:SM)(hin:JV (szs m m.crs[i].pts) l=true)(h:Hp):PCall (En G) 56 [.agg (EE m),.int .i64 (i:Int),.sl s 1 (l.map qencI)] h (.bool (!PH m m.crs[i] l)):=by
 refine ACalls.pure0 rfl ?_
 have hh:=hg.here
 have hfour:=hg.four
 have hnum:=hg.num
 have hlen:l.length=m.crs[i].pts.length:=by have:=MR hin; rw[LG] at this; omega
 refine acN Tryz.func56 rfl ?_
 show awp _ _ _ _ _ (EM _ [.tmp 6] _)
 have gm:(h++[ABlk.live 2 [EE m]]++[ABlk.live 1 [[.sl s 1 (l.map qencI)]]])[h.length]? = some (.live 2 [EE m]):=CX (CZ _ _)
 have gl:=CZ (h++[ABlk.live 2 [EE m]]) (.live 1 [[.sl s 1 (l.map qencI)]])
 have hx : ∃ x,h++[ABlk.live 2 [EE m]]++[ABlk.live 1 [[.sl s 1 (l.map qencI)]]]=h++x:=⟨_,zH _ _ _⟩
 simp -implicitDefEqProofs only[vQ,APW,BD,↓reduceIte,jB,enP,bxM]
 generalize h++[ABlk.live 2 [EE m]]++[ABlk.live 1 [[.sl s 1 (l.map qencI)]]]=H at gm gl hx ⊢
 generalize (h++[ABlk.live 2 [EE m]]).length=lb at gl ⊢
 simp -implicitDefEqProofs only[vQ,BD,↓reduceIte,jB,enP,ldM gm,J8 KO gl]
 refine(AJF G m i hi hg l s hin _).use ?_
 simp -implicitDefEqProofs only[vQ,zB,zD,BD,↓reduceIte,jB,jU,enP,P5,IV,IZ,JH,XW gm,DN hi,CY KO hi,QJ,jH]
 have hkb:=TN m m.crs[i].pts l
 refine GZ 0 (fun F H'=>F 1 = .int .i64 (i:Nat)∧F 3 = .ptr h.length 0 0∧F 5 = .ptr lb 0 0∧H'=H∧MO m m.crs[i].pts l=true) (fun F H'=>F 6 = .bool true∧H'=H∧MO m m.crs[i].pts l=false) ?_ ?_ ?_
 ·refine DL (fun n F H' => ∃ k,n+k=l.length∧F 1 = .int .i64 (i:Nat)∧F 3 = .ptr h.length 0 0∧F 5 = .ptr lb 0 0∧F 25 = .sl m.crs[i].pm 1 (m.crs[i].pts.map qencI)∧F 26 = .int .i64 m.crs[i].pts.length∧F 27 = .int .i64 (k:Nat)∧H'=H∧MO m m.crs[i].pts l=MO m (m.crs[i].pts.drop k) (l.drop k)) l.length ⟨0,by simp,by simp -implicitDefEqProofs only[vQ,↓reduceIte,jB],by simp -implicitDefEqProofs only[AA,↓reduceIte,jB],by simp -implicitDefEqProofs only[AA,↓reduceIte,jB],by simp -implicitDefEqProofs only[AA,↓reduceIte,jB],by simp -implicitDefEqProofs only[AA,↓reduceIte,jB],by simp -implicitDefEqProofs only[AA,↓reduceIte]; rfl,rfl,rfl⟩ ?_
  rintro n F H' ⟨k,hk,f1,f3,f5,f25,f26,f27,rfl,hk0⟩
  simp -implicitDefEqProofs only[vQ,BD,↓reduceIte,enP,f26,f27]
  refine CU (fun hc => ?_) (fun hc => ?_)
  ·have hkc:k < m.crs[i].pts.length:=by simpa using hc
   have hk':k < l.length:=by omega
   rw[hkb k hkc hk'] at hk0
   obtain⟨h0,h1⟩:=VO hin k hk' hkc
   obtain⟨s2,ls⟩:=hh.ld hkc H'
   have hlt:l[k].toNat < (IX m m.crs[i].pts[k]).length:=by omega
   simp -implicitDefEqProofs only[vQ,BD,↓reduceIte,jB,enP,IB,f25,f27,DN hkc,CY ag3 hkc,encI0]
   refine EY (by kernel_rfl) ?_
   simp -implicitDefEqProofs only[vQ,↓reduceIte,jB,jM,enP,PG,GU,IB,SA,IE,ND,bne,f3,f5,f27,TC gm,hh.ix hkc,ls,J8 KO gl,DN hk',CY ag3 hk',encI0,AJ5 h0 h1,CY ag3 hlt,QV,AAV h0 h1]
   cases hkd:(WT m m.crs[i].pts[k] l[k] == 0)
   ·simp -implicitDefEqProofs only[vQ,BD,↓reduceIte]
    exact⟨trivial,trivial,by rw[hk0,hkd]; rfl⟩
   ·simp -implicitDefEqProofs only[vQ,BD,↓reduceIte,jB,jU,enP,f27,wrap_succ (show k < 9223372036854775807 by omega)]
    exact⟨n - 1,by omega,k+1,by omega,f1,f3,f5,f25,f26,rfl,trivial,by rw[hk0,hkd]; rfl⟩
  ·have hk' : ¬ k < m.crs[i].pts.length:=by simpa using hc
   simp -implicitDefEqProofs only[vQ,↓reduceIte,jB]
   exact⟨f1,f3,f5,trivial,by rw[hk0,jV (show l.length≤k by omega),VN]⟩
 ·rintro F H' ⟨f1,f3,f5,rfl,hk⟩
  simp -implicitDefEqProofs only[vQ,BD,I5,↓reduceIte,jB,enP,P5,IV,QP,f1,f3,f5,XW gm,DN hi,CY UE hi,ASA]
  refine(SQ G m.crs[i].excl m.crs[i].xm 91 _ (fun x=>eqL x.l l) _ (by omega) fun r=>AMS G l s _ r _ gl (by omega)).use ?_
  simp -implicitDefEqProofs only[vQ,BD,↓reduceIte]
  exact⟨by unfold PH; rw[hk]; simp,hx⟩
 ·rintro F H' ⟨f6,rfl,hk⟩
  simp -implicitDefEqProofs only[vQ,f6]
  exact⟨by unfold PH; rw[hk]; rfl,hx⟩
theorem ADU (G:Nat→AV)(m:Mo)(i:Nat)(hi:i < m.crs.length)(hg:CrGood m m.crs[i])(h:Hp):PCall (En G) 59 [.agg (EE m),.int .i64 (i:Int)] h (.bool true):=by
 refine ACalls.pure0 rfl ?_
 have hfour:=hg.four
 have gm:=CZ h (.live 2 [EE m])
 have hx : ∃ x,h++[ABlk.live 2 [EE m]]=h++x:=⟨_,rfl⟩
 refine acN Tryz.func59 rfl ?_
 show awp _ _ _ _ _ (EM _ [.tmp 4] _)
 have d0:decide ((i:Int) < 0)=false:=by simp
 have d1:decide ((i:Int)≥(m.crs.length:Int))=false:=by simp; omega
 simp -implicitDefEqProofs only[vQ,CP,BD,↓reduceIte,jB,enP,P5,UU,IV,JH,bxM,d0,XW gm,jH,d1,DN hi,CY KO hi,QJ]
 generalize h++[ABlk.live 2 [EE m]]=H at gm hx ⊢
 refine DL (fun n F H' => ∃ k,n+k=m.crs[i].pts.length∧F 2 = .ptr h.length 0 0∧F 5 = .sl m.crs[i].pm 1 (m.crs[i].pts.map qencI)∧F 6 = .int .i64 (k:Nat)∧H'=H) m.crs[i].pts.length ⟨0,by simp,by simp -implicitDefEqProofs only[AA,↓reduceIte,jB],by simp -implicitDefEqProofs only[AA,↓reduceIte,jB],by simp -implicitDefEqProofs only[AA,↓reduceIte]; rfl,rfl⟩ ?_
 rintro n F H' ⟨k,hk,f2,f5,f6,rfl⟩
 simp -implicitDefEqProofs only[vQ,BD,↓reduceIte,jB,enP,IZ,f5,f6,jH]
 refine CU (fun hc => ?_) (fun hc => ?_)
 ·have hk':k < m.crs[i].pts.length:=by simpa using hc
  have hb:=hg.here _ (jP hk')
  have e0:decide (m.crs[i].pts[k] < 0)=false:=by simp; omega
  have e1:decide (m.crs[i].pts[k]≥(m.pts.length:Int))=false:=by simp; omega
  simp -implicitDefEqProofs only[vQ]
  refine EY (by kernel_rfl) ?_
  simp -implicitDefEqProofs only[vQ,SY,CP,BD,↓reduceIte,jB,jM,enP,OE,GU,IB,f2,f5,f6,DN hk',CY ag3 hk',encI0,e0,TC gm,jH,e1,wrap_succ (show k < 9223372036854775807 by omega)]
  exact⟨n - 1,by omega,k+1,by omega,trivial,trivial,rfl,trivial⟩
 ·simp -implicitDefEqProofs only[vQ,BD,↓reduceIte]
  exact⟨trivial,hx⟩
theorem AFZ (G:Nat→AV)(m:Mo)(i:Nat)(hi:i < m.crs.length)(hg:CrGood m m.crs[i])(k:Nat)(hk:k < m.crs[i].pts.length)(h:Hp):PCall (En G) 60 [.agg (EE m),.int .i64 (i:Int),.int .i64 (k:Int)] h (.int .i64 ((IX m m.crs[i].pts[k]).length:Int)):=by
 refine ACalls.pure0 rfl ?_
 have gm:=CZ h (.live 2 [EE m])
 obtain⟨s,ls⟩:=hg.here.ld hk (h++[ABlk.live 2 [EE m]])
 refine acN Tryz.func60 rfl ?_
 show awp _ _ _ _ _ (EM _ [.tmp 6] _)
 simp -implicitDefEqProofs only[vQ,BD,enP,bxM]
 refine EY (by kernel_rfl) ?_
 simp -implicitDefEqProofs only[vQ,↓reduceIte,jB,jM,enP,PG,P5,GU,IV,IB,PE,IE,JH,TC gm,XW gm,DN hi,CY KO hi,QJ,DN hk,CY ag3 hk,encI0,hg.here.ix hk,ls,jH]
 exact⟨trivial,_,rfl⟩
theorem AMB (G:Nat→AV)(m:Mo)(i:Nat)(hi:i < m.crs.length)(hg:CrGood m m.crs[i])(l:List Int)(s:SM)(hin:JV (szs m m.crs[i].pts) l=true)(h:Hp):PCall (En G) 30 [.agg (EE m),.int .i64 (i:Int),.sl s 1 (l.map qencI)] h (.tup [.int .i64 (V5 (szs m m.crs[i].pts) l 0),.bool true]):=by
 have hfour:=hg.four
 have hsl:=LG m m.crs[i].pts
 have hget:=ZO m m.crs[i].pts
 have hlen:=MR hin
 refine ACalls.pure 2 (R:=fun v H=>v = .tup [.int .i64 (V5 (szs m m.crs[i].pts) l 0),.bool true]∧∃ x,H=h++x) ?_ (fun v h' ⟨e,x⟩=>⟨x,by subst e; rfl⟩)
 have gm:=CZ h (.live 2 [EE m])
 have hx : ∃ x,h++[ABlk.live 2 [EE m]]=h++x:=⟨_,rfl⟩
 refine acN Tryz.func30 rfl ?_
 show awp _ _ _ _ _ (EM _ [.tmp 6,.tmp 7] _)
 simp -implicitDefEqProofs only[vQ,BD,↓reduceIte,jB,enP,bxM,ldM gm]
 refine(ADU G m i hi hg _).use ?_
 have hne:((l.length:Int) != (m.crs[i].pts.length:Int))=false:=by rw[← hsl,hlen]; simp
 simp -implicitDefEqProofs only[vQ,CP,BD,↓reduceIte,jB,jU,enP,P5,IV,IZ,JH,XW gm,DN hi,CY KO hi,QJ,jH,hne]
 generalize h++[ABlk.live 2 [EE m]]=H at gm hx ⊢
 generalize szs m m.crs[i].pts=ns at hin hsl hlen hget ⊢
 refine DL (fun n F H' => ∃ k,n+k=l.length∧F 1 = .int .i64 (i:Nat)∧F 2 = .sl s 1 (l.map qencI)∧F 3 = .ptr h.length 0 0∧(∃ z,F 8 = .int .i64 z∧V5 ns l 0=V5 (ns.drop k) (l.drop k) z)∧F 9 = .int .i64 (k:Nat)∧H'=H) l.length ⟨0,by simp,by simp -implicitDefEqProofs only[vQ,↓reduceIte,jB],by simp -implicitDefEqProofs only[vQ,↓reduceIte,jB],by simp -implicitDefEqProofs only[AA,↓reduceIte,jB],⟨0,rfl,rfl⟩,by simp -implicitDefEqProofs only[AA,↓reduceIte]; rfl,rfl⟩ ?_
 rintro n F H' ⟨k,hk,f1,f2,f3,⟨z,f8,hz⟩,f9,rfl⟩
 simp -implicitDefEqProofs only[vQ,BD,↓reduceIte,jB,enP,IZ,f2,f9,jH]
 refine CU (fun hc => ?_) (fun hc => ?_)
 ·have hk':k < l.length:=by simpa using hc
  have hkn:k < ns.length:=by omega
  have hkc:k < m.crs[i].pts.length:=by omega
  have hgk:ns[k]=(IX m m.crs[i].pts[k]).length:=IC (hget k hkc)
  obtain⟨h0,h1⟩:=AEW hin k hk' hkn
  have d0:decide (l[k] < 0)=false:=by simp; omega
  have d1:decide (l[k]≥(ns[k]:Int))=false:=by simp; omega
  rw[zK hk',zK hkn] at hz
  simp -implicitDefEqProofs only[vQ,BD,↓reduceIte,jB,enP,f1,f3,f9,ldM gm]
  refine(AFZ G m i hi hg k hkc _).use ?_
  rw[← hgk]
  simp -implicitDefEqProofs only[vQ,CP,BD,OJ,↓reduceIte,jB,enP,IB,f2,f8,f9,DN hk',CY ag3 hk',encI0,d0,d1,wrap_succ (show k < 9223372036854775807 by omega)]
  exact⟨n - 1,by omega,k+1,by omega,f1,trivial,f3,⟨_,rfl,hz⟩,rfl,trivial⟩
 ·have hk' : ¬ k < l.length:=by simpa using hc
  rw[jV (show l.length≤k by omega),AAF] at hz
  simp -implicitDefEqProofs only[vQ,BD,↓reduceIte,jB,f8,hz]
  exact⟨trivial,hx⟩
theorem AJT (G:Nat→AV)(m:Mo)(i:Nat)(hi:i < m.crs.length)(hg:CrGood m m.crs[i])(l:List Int)(s:SM)(hin:JV (szs m m.crs[i].pts) l=true)(h:Hp):PCall (En G) 31 [.agg (EE m),.int .i64 (i:Int),.sl s 1 (l.map qencI)] h (.bool (!PH m m.crs[i] l)):=by
 refine ACalls.pure0 rfl ?_
 have hh:=hg.here
 have hfour:=hg.four
 have hnum:=hg.num
 have hlen:l.length=m.crs[i].pts.length:=by have:=MR hin; rw[LG] at this; omega
 refine acN Tryz.func31 rfl ?_
 show awp _ _ _ _ _ (EM _ [.tmp 6] _)
 have t:=Two.mk' h m m.crs[i]
 simp -implicitDefEqProofs only[vQ,BD,↓reduceIte,jB,enP,bxM,ldM (CZ h (.live 2 [EE m]))]
 refine(AMB G m i hi hg l s hin _).use ?_
 simp -implicitDefEqProofs only[vQ,zB,zD,BD,↓reduceIte,jB,jU,enP,P5,IV,jT,XW (CZ h (.live 2 [EE m])),DN hi,FU AAZ XV KH hi,AUX,AST _ _ [.str ⟨#[]⟩,.sl .nil 0 [],.sl .nil 0 []] rfl]
 generalize h++[ABlk.live 2 [EE m]]++[ABlk.live 3 [GV m.crs[i]]]=H at t ⊢
 generalize (h++[ABlk.live 2 [EE m]]).length=cb at t ⊢
 have hkb:=TN m m.crs[i].pts l
 refine GZ 0 (fun F H'=>F 2 = .sl s 1 (l.map qencI)∧F 3 = .ptr h.length 0 0∧F 9 = .ptr cb 0 0∧H'=H∧(m.crs[i].excl.any fun x=>eqL x.l l)=false) (fun F H'=>F 6 = .bool true∧H'=H∧(m.crs[i].excl.any fun x=>eqL x.l l)=true) ?_ ?_ ?_
 ·refine DL (fun n F H' => ∃ k,n+k=m.crs[i].excl.length∧F 2 = .sl s 1 (l.map qencI)∧F 3 = .ptr h.length 0 0∧F 9 = .ptr cb 0 0∧F 10 = .int .i64 (k:Nat)∧H'=H∧(m.crs[i].excl.any fun x=>eqL x.l l)=((m.crs[i].excl.drop k).any fun x=>eqL x.l l)) m.crs[i].excl.length ⟨0,by simp,by simp -implicitDefEqProofs only[vQ,↓reduceIte,jB],by simp -implicitDefEqProofs only[AA,↓reduceIte,jB],by simp -implicitDefEqProofs only[AA,↓reduceIte,jB],by simp -implicitDefEqProofs only[AA,↓reduceIte]; rfl,rfl,rfl⟩ ?_
  rintro n F H' ⟨k,hk,f2,f3,f9,f10,rfl,ha⟩
  simp -implicitDefEqProofs only[vQ,BD,↓reduceIte,jB,enP,AC0,QP,f9,f10,t.l2,jH]
  refine CU (fun hc => ?_) (fun hc => ?_)
  ·have hk':k < m.crs[i].excl.length:=by simpa using hc
   have hs:=KT (fun x:Is=>eqL x.l l) m.crs[i].excl k hk'
   simp -implicitDefEqProofs only[vQ,BD,↓reduceIte,jB,enP,PO,QP,f2,f9,f10,t.l2,DN hk',CY KO hk',PT]
   refine(AOE G m.crs[i].excl[k].l l _ s _ (by omega)).use ?_
   simp -implicitDefEqProofs only[vQ,↓reduceIte]
   cases he:eqL m.crs[i].excl[k].l l
   ·simp -implicitDefEqProofs only[vQ,BD,↓reduceIte,jB,enP,f10,wrap_succ (show k < 9223372036854775807 by omega)]
    exact⟨n - 1,by omega,k+1,by omega,f2,f3,f9,rfl,trivial,by rw[ha,hs,he]; rfl⟩
   ·simp -implicitDefEqProofs only[vQ,BD,↓reduceIte]
    exact⟨trivial,trivial,by rw[ha,hs,he]; rfl⟩
  ·have hk' : ¬ k < m.crs[i].excl.length:=by simpa using hc
   simp -implicitDefEqProofs only[vQ,↓reduceIte,jB]
   exact⟨f2,f3,f9,trivial,by rw[ha,jV (by omega)]; rfl⟩
 ·rintro F H' ⟨f2,f3,f9,rfl,ha⟩
  have hhb:PH m m.crs[i] l=MO m m.crs[i].pts l:=by unfold PH; rw[ha]; simp
  rw[hhb]
  simp -implicitDefEqProofs only[vQ,BD,↓reduceIte]
  refine DL (fun n F H => ∃ k,n+k=l.length∧F 2 = .sl s 1 (l.map qencI)∧F 3 = .ptr h.length 0 0∧F 9 = .ptr cb 0 0∧F 11 = .int .i64 (k:Nat)∧H=H'∧MO m m.crs[i].pts l=MO m (m.crs[i].pts.drop k) (l.drop k)) l.length ⟨0,by simp,by simp -implicitDefEqProofs only[AA,↓reduceIte,jB,f2],by simp -implicitDefEqProofs only[AA,↓reduceIte,jB,f3],by simp -implicitDefEqProofs only[AA,↓reduceIte,jB,f9],by simp -implicitDefEqProofs only[AA,↓reduceIte]; rfl,rfl,rfl⟩ ?_
  clear f2 f3 f9
  rintro n F H' ⟨k,hk,f2,f3,f9,f11,rfl,hk0⟩
  simp -implicitDefEqProofs only[vQ,BD,↓reduceIte,jB,enP,IZ,f2,f11,jH]
  refine CU (fun hc => ?_) (fun hc => ?_)
  ·have hk':k < l.length:=by simpa using hc
   have hkc:k < m.crs[i].pts.length:=by omega
   rw[hkb k hkc hk'] at hk0
   obtain⟨h0,h1⟩:=VO hin k hk' hkc
   obtain⟨s2,ls⟩:=hh.ld hkc H'
   have hlt:l[k].toNat < (IX m m.crs[i].pts[k]).length:=by omega
   simp -implicitDefEqProofs only[vQ]
   refine EY (by kernel_rfl) ?_
   simp -implicitDefEqProofs only[vQ,↓reduceIte,jB,jM,enP,PG,GU,IB,SA,IE,ND,JH,bne,f2,f3,f9,f11,t.lm,t.l1,DN hkc,CY ag3 hkc,DN hk',CY ag3 hk',encI0,hh.ix hkc,ls,AJ5 h0 h1,CY ag3 hlt,QV,AAV h0 h1]
   cases hkd:(WT m m.crs[i].pts[k] l[k] == 0)
   ·simp -implicitDefEqProofs only[vQ,BD,↓reduceIte]
    exact⟨by rw[hk0,hkd]; rfl,t.hx⟩
   ·simp -implicitDefEqProofs only[vQ,BD,↓reduceIte,jB,jU,enP,f11,wrap_succ (show k < 9223372036854775807 by omega)]
    exact⟨n - 1,by omega,k+1,by omega,f2,f3,f9,rfl,trivial,by rw[hk0,hkd]; rfl⟩
  ·have hk' : ¬ k < l.length:=by simpa using hc
   simp -implicitDefEqProofs only[vQ,BD,↓reduceIte]
   exact⟨by rw[hk0,jV (show l.length≤k by omega),VN]; rfl,t.hx⟩
 ·rintro F H' ⟨f6,rfl,ha⟩
  simp -implicitDefEqProofs only[vQ,f6]
  exact⟨by unfold PH; rw[ha]; simp,t.hx⟩
structure Gl where
 cross:Bool
 idx:Nat
 bm:SM
 bins:List Int
 at_:Nat
def A6Y (g:Gl):List AV := [.bool g.cross,.int .i64 (g.idx:Int),.sl g.bm 1 (g.bins.map qencI),.int .i64 (g.at_:Int)]
def A82 (g:Gl):List AV := [.bool g.cross,.int .i64 (g.idx:Int),.sl g.bm 1 (g.bins.map qencI)]
theorem AXU (g:Gl):(A6Y g).length=4:=rfl
def mkP (i k:Nat):Gl:=⟨false,i,.full,[(k:Int)],k⟩
def mkC (m:Mo)(i k:Nat)(c:Cr):Gl:=⟨true,i,.any,O6 (szs m c.pts) k,k⟩
def gPk (i:Nat)(p:Pt):Nat→List Gl
 | 0 => []
 | k+1=>gPk i p k++(if(kindOf p k == 0)=true then [mkP i k] else [])
def gP (m:Mo):Nat→List Gl
 | 0 => []
 | i+1=>gP m i++(match m.pts[i]? with | some p=>gPk i p p.bins.length | none => [])
def gCk (m:Mo)(i:Nat)(c:Cr):Nat→List Gl
 | 0 => []
 | k+1=>gCk m i c k++(if PH m c (O6 (szs m c.pts) k)=true then [mkC m i k c] else [])
def gC (m:Mo):Nat→List Gl
 | 0=>gP m m.pts.length
 | i+1=>gC m i++(match m.crs[i]? with | some c=>gCk m i c (H8 (szs m c.pts)) | none => [])
def goals (m:Mo):List Gl:=gC m m.crs.length
def cellAt (l:List Is)(i k:Nat):Int:=match l[i]? with
 | some x=>(match x.l[k]? with | some z=>z | none=>0)
 | none=>0
def A4P (v:Cvr)(g:Gl):Int:=if g.cross then cellAt v.crs g.idx g.at_ else cellAt v.pts g.idx g.at_
def InL (l:List Is)(i k:Nat):Prop := ∃ hi:i < l.length,k < (l[i]'hi).l.length
theorem AIC {l:List Is}{i k:Nat}(h:InL l i k) : ∃ (hi:i < l.length) (hk:k < l[i].l.length),cellAt l i k=l[i].l[k]:=by
 obtain⟨hi,hk⟩:=h
 refine⟨hi,hk,?_⟩
 unfold cellAt
 rw[jS hi]
 simp only
 rw[jS hk]
theorem AAJ {α:Type}{ok:α→Is→Bool} : ∀ {ws:List α} {xs:List Is},MS ok ws xs=true→∀ (i:Nat) (a:α),ws[i]? = some a→∃ x,xs[i]? = some x∧ok a x=true
 | [],[],_,i,a,h=>by simp at h
 | w :: ws,x :: xs,h,i,a,ha=>by
   simp only[MS,jX] at h
   cases i with
   | zero=>simp at ha; subst ha; exact⟨x,rfl,h.1⟩
   | succ i=>exact AAJ h.2 i a (by simpa using ha)
 | [],_ :: _,h,_,_,_=>by cases h
 | _ :: _,[],h,_,_,_=>by cases h
theorem AXB {l:List Is}{i k n:Nat}{x:Is}(hx:l[i]? = some x)(hn:x.l.length=n)(hk:k < n):InL l i k:=by
 obtain⟨hi,e⟩:=List.getElem?_eq_some_iff.1 hx
 exact⟨hi,by rw[e]; omega⟩
theorem ldH {h:Hp}{b:Nat}{g:Gl}(hb:h[b]? = some (.live 4 [A6Y g])):D8 Tryz.prog h 28 (.ptr b 0 0)=some (.agg (A82 g)):=by
 rw[IJ A77 A3L hb rfl (by rw[AXU]; omega)]; rfl
theorem AE5 {m:Mo}{v:Cvr}(hf:LC m v=true):FX m=0:=by
 unfold LC at hf
 simp only[jX,beq_iff_eq] at hf
 exact hf.1.1.1.1
structure Three (h H:Hp) (m:Mo) (a b:Cvr) (ab bb:Nat):Prop where
 gm:H[h.length]? = some (.live 2 [EE m])
 ga:H[ab]? = some (.live 4 [encV a])
 gb:H[bb]? = some (.live 4 [encV b])
 hx : ∃ x,H=h++x
theorem Three.mk' (h:Hp)(m:Mo)(a b:Cvr):Three h (h++[.live 2 [EE m]]++[.live 4 [encV a]]++[.live 4 [encV b]]) m a b (h++[ABlk.live 2 [EE m]]).length (h++[ABlk.live 2 [EE m]]++[ABlk.live 4 [encV a]]).length :=
 ⟨CX (CX (CZ _ _)),CX (CZ _ _),CZ _ _,⟨_,by rw[zH,zH]⟩⟩
def mkB (name:ByteArray)(kind lo hi:Int):Bin:=⟨name,kind,⟨.full,[⟨lo,hi⟩]⟩,.nil,[]⟩
theorem A7V (a b:Int):LM Tryz.prog 88 [(0,.int .i64 a),(1,.int .i64 b)]=some (.agg [.int .i64 a,.int .i64 b]):=by kernel_rfl
theorem A67 (h:Hp)(a b:Int):FM Tryz.prog false h 53 1 [(0,.agg [.int .i64 a,.int .i64 b])]=some (.sl .full 2 [[.int .i64 a,.int .i64 b]],h):=by kernel_rfl
theorem A9J (s:ByteArray)(k:Int)(xs:List (List AV)):LM Tryz.prog 56 [(0,.str s),(1,.int .i64 k),(2,.sl .full 2 xs)]=some (.agg [.str s,.int .i64 k,.sl .full 2 xs,.sl .nil 0 []]):=by kernel_rfl
def rowB (s:ByteArray)(k lo hi:Int):List AV := [.str s,.int .i64 k,.sl .full 2 [[.int .i64 lo,.int .i64 hi]],.sl .nil 0 []]
theorem A5F (h:Hp)(s:ByteArray)(k lo hi:Int)(row:List AV)(hr:row.length=4):FP Tryz.prog (h++[.live 4 [row]]) 56 (.ptr h.length 0 0) (.agg [.str s,.int .i64 k,.sl .full 2 [[.int .i64 lo,.int .i64 hi]],.sl .nil 0 []])=some (h++[.live 4 [rowB s k lo hi]]):=by
 have h1:=OW (P:=Tryz.prog) (t:=56) (h:=h) (k:=4) (j:=0) (row:=row) (cs:=rowB s k lo hi) (v := .agg (rowB s k lo hi)) rfl YQ (by rw[hr]; exact jL 4)
 have h2:splice row 0 (rowB s k lo hi)=rowB s k lo hi:=by unfold splice; simp [hr,rowB]
 rw[h2] at h1
 exact h1
theorem A9K (n:Int)(s:ByteArray):LM Tryz.prog 48 [(0,.int .i64 n),(2,.str s)]=some (.agg [.int .i64 n,.int .i64 0,.str s,.sl .nil 0 []]):=by kernel_rfl
theorem A9O (h:Hp):KN Tryz.prog h 25=some (.ptr h.length 0 0,h++[.live 2 [[.sl .nil 0 [],.sl .nil 0 []]]]):=KD (row := [.sl .nil 0 [],.sl .nil 0 []]) (by kernel_rfl)
theorem A7J (xs:List (List AV)):LM Tryz.prog 28 [(2,.sl .full 1 xs)]=some (.agg [.bool false,.int .i64 0,.sl .full 1 xs]):=by kernel_rfl
end Go.Proofs.YtfpagfhhhlljjaaGreatDoor.Cov
