/- Part 21 of the proof (O38, O39, O40, O41, O43); no condition. -/
import Derived.Shelf.Strings.OnBuilder
import Derived.Test.YtfpagfhhhlljjaaGreatDoorYD20
set_option linter.unusedVariables false
namespace Go.Proofs.YtfpagfhhhlljjaaGreatDoor.Ho
open Sm Bins Cov Go.RowKit
open List renaming map_cons→jD,length_cons→zX,length_map→jH
def AHS:Go.Shelf.Ren:=⟨fun | 156=>33 | 165=>62 | 166=>63 | 169=>64 | 240=>98 | 241=>99 | 276=>140 | 277=>141 | n=>n,fun | 31=>65 | 9=>9 | 3=>3 | 4=>4 | 0=>0 | 20=>20 | 72=>102 | 76=>106 | 70=>99 | 37=>100 | 75=>105 | 127=>141 | 164=>170 | 5=>5 | 80=>108 | n=>n,fun | n=>n⟩
theorem A6K:Go.Proofs.Lays.n156 Tryz.prog AHS := {
 mixed:=by kernel_rfl,
 f156:=Tryz.func33.trans (congrArg some (by kernel_rfl)),
 f165:=Tryz.func62.trans (congrArg some (by kernel_rfl)),
 f166:=Tryz.func63.trans (congrArg some (by kernel_rfl)),
 f169:=Tryz.func64.trans (congrArg some (by kernel_rfl)),
 f240:=Tryz.func98.trans (congrArg some (by kernel_rfl)),
 f241:=Tryz.func99.trans (congrArg some (by kernel_rfl)),
 f276:=Tryz.func140.trans (congrArg some (by kernel_rfl)),
 f277:=Tryz.func141.trans (congrArg some (by kernel_rfl)),
 t0:=Tryz.underlying0,
 a0:=Tryz.isAgg0,
 z0:=Tryz.sizeOf0,
 v0:=Tryz.zeroValue0,
 t3:=Tryz.underlying3,
 a3:=Tryz.isAgg3,
 z3:=Tryz.sizeOf3,
 v3:=Tryz.zeroValue3,
 t4:=Tryz.underlying4,
 a4:=Tryz.isAgg4,
 z4:=Tryz.sizeOf4,
 v4:=Tryz.zeroValue4,
 t9:=Tryz.underlying9,
 a9:=Tryz.isAgg9,
 z9:=Tryz.sizeOf9,
 v9:=Tryz.zeroValue9,
 t20:=Tryz.underlying20,
 a20:=Tryz.isAgg20,
 z20:=Tryz.sizeOf20,
 v20:=Tryz.zeroValue20,
 t31:=Tryz.underlying65,
 a31:=Tryz.isAgg65,
 z31:=Tryz.sizeOf65,
 v31:=Tryz.zeroValue65,
 t37:=Tryz.underlying100,
 a37:=Tryz.isAgg100,
 z37:=Tryz.sizeOf100,
 v37:=Tryz.zeroValue100,
 t70:=Tryz.underlying99,
 a70:=Tryz.isAgg99,
 z70:=Tryz.sizeOf99,
 v70:=Tryz.zeroValue99,
 t72:=Tryz.underlying102,
 a72:=Tryz.isAgg102,
 z72:=Tryz.sizeOf102,
 v72:=Tryz.zeroValue102,
 t75:=Tryz.underlying105,
 a75:=Tryz.isAgg105,
 z75:=Tryz.sizeOf105,
 v75:=Tryz.zeroValue105,
 t76:=Tryz.underlying106,
 a76:=Tryz.isAgg106,
 z76:=Tryz.sizeOf106,
 v76:=Tryz.zeroValue106,
 t127:=Tryz.underlying141,
 a127:=Tryz.isAgg141,
 z127:=Tryz.sizeOf141,
 v127:=Tryz.zeroValue141,
 t164:=Tryz.underlying170,
 a164:=Tryz.isAgg170,
 z164:=Tryz.sizeOf170,
 v164:=Tryz.zeroValue170 }
theorem A6J:Builder.Extra Tryz.prog AHS := {
 t5:=Tryz.underlying5,
 a5:=Tryz.isAgg5,
 z5:=Tryz.sizeOf5,
 v5:=Tryz.zeroValue5,
 infoByte:=by kernel_rfl,
 cellsByte:=by kernel_rfl,
 sizeByte:=by kernel_rfl,
 neB5:=by decide,
 sizeBuilder:=by kernel_rfl,
 liesBuilder:=by kernel_rfl }
def YB (xs:List ByteArray):ByteArray:=⟨(Lib.join (xs.map (·.data.toList)) [44]).toArray⟩
def AFK (s:ByteArray):List AV := [.str s]
theorem ATQ (G:Nat→AV)(xs:List ByteArray)(s:SM)(hne:xs≠[])(hN:xs.length≤4)(hl : ∀ x∈xs,x.size≤1099511627776)(h:Hp):PCall (En G) 33 [.sl s 1 (xs.map AFK),.str comma] h (.str (YB xs)):=by
 refine⟨cok 33 G (by kernel_rfl),fun g w cargs S ha => ?_⟩
 obtain⟨hsz,hget⟩:=ha
 obtain⟨cv0,cv1,rfl⟩ : ∃ a b,cargs = #[a,b]:=by
  obtain⟨l⟩:=cargs
  match l,hsz with
  | [a,b],_=>exact⟨a,b,rfl⟩
 have h0:=(hget 0 _ cv0 rfl rfl).sl_inv
 obtain rfl:=(hget 1 _ cv1 rfl rfl).str_inv
 generalize hq:xs.map AFK=rows at h0
 cases h0 with
 | nil=>cases xs with
   | nil=>exact absurd rfl hne
   | cons a t=>cases hq
 | empty=>cases xs with
   | nil=>exact absurd rfl hne
   | cons a t=>cases hq
 | sl m k rs cb co c e fz cap cv h1 h2 h3 h4 h5 h6 h7 h8 =>
   subst hq
   have hlen:(Lib.join (xs.map (·.data.toList)) comma.data.toList).length≤140737488355328:=by
    cases xs with
    | nil=>exact absurd rfl hne
    | cons a t =>
      rw[jD,Lib.join_length]
      have hlens : ∀ l:List ByteArray,(∀ x∈l,x.size≤1099511627776)→Lib.lens (l.map (·.data.toList))≤l.length * 1099511627776:=by
       intro l
       induction l with
       | nil=>intro _; simp [Lib.lens]
       | cons y r ih =>
         intro hy
         have a1:=ih fun z hz=>hy z (List.mem_cons_of_mem _ hz)
         have a2:y.data.toList.length≤1099511627776:=hy y (by simp)
         simp only[Lib.lens,jD,List.sum_cons,zX] at a1 ⊢
         omega
      have a1:=hlens (a :: t) hl
      rw[jD] at a1
      have a3:comma.data.toList.length=1:=rfl
      rw[a3,jH]
      simp only[zX] at a1 hN ⊢
      omega
   have hcall:=Any.strings_Join A6K A6J cb co cap xs comma w (fun j x hx => ?_) ?_ (by omega) (by simpa using h7) hlen
   ·rw[jH]
    refine hcall.mono ?_
    rintro e' w' ⟨rfl,hb⟩
    exact⟨_,_,g,h,rfl,⟨rfl,rfl⟩,Gh.le.refl g,S.below hb,.fro (.str _)⟩
   ·obtain⟨hj,rfl⟩:=List.getElem?_eq_some_iff.1 hx
    have hc5:=h5 j 0 (by rw[jH]; exact hj) (by omega)
    have hc6:=h6 j 0 (AFK xs[j]) (.str xs[j]) (by rw[List.getElem?_map,List.getElem?_eq_getElem hj]; rfl) rfl
    have hc7:cv j 0 = .string xs[j]:=(Rep.fro (g:=g) hc6).str_inv
    rw[Nat.mul_one,Nat.add_zero,hc7] at hc5
    have hm:=S.fro _ _ h3
    simp only[World.cell?,hm]
    exact hc5
   ·exact(Array.getElem?_eq_some_iff.1 (S.fro _ _ h3)).1
def nmQ (m:Mo)(q:Nat × Nat):ByteArray:=YK m (q.1:Int) (q.2:Int)
theorem AJ7 {a b:ByteArray}(h:a.data.toList=b.data.toList):a=b:=ByteArray.ext (Array.ext' h)
theorem AV6 (m:Mo) : ∀ (L:List (Nat × Nat)) (s:ByteArray),prN m s false (L.map fun q=>(q.1:Int)) (L.map fun q=>(q.2:Int))=s++⟨(Lib.joinTail [44] ((L.map (nmQ m)).map (·.data.toList))).toArray⟩:=by
 intro L
 induction L with
 | nil=>intro s; apply AJ7; simp [prN,Lib.joinTail]
 | cons q r ih =>
   intro s
   show prN m ((if false=true then s else s++comma)++YK m q.1 q.2) false _ _=_
   rw[if_neg (by decide)]
   have:=ih (s++comma++YK m q.1 q.2)
   rw[this]
   apply AJ7
   simp [Lib.joinTail,nmQ,comma]
theorem AV7 (m:Mo)(L:List (Nat × Nat))(hL:L≠[])(s:ByteArray):prN m s true (L.map fun q=>(q.1:Int)) (L.map fun q=>(q.2:Int))=s++YB (L.map (nmQ m)):=by
 cases L with
 | nil=>exact absurd rfl hL
 | cons q r =>
   show prN m ((if true=true then s else s++comma)++YK m q.1 q.2) false _ _=_
   rw[if_pos rfl]
   have:=AV6 m r (s++YK m q.1 q.2)
   rw[this]
   apply AJ7
   unfold YB
   simp only[jD]
   rw[Lib.join_cons]
   simp [nmQ]
end Go.Proofs.YtfpagfhhhlljjaaGreatDoor.Ho
set_option linter.unusedSimpArgs false
set_option maxRecDepth 8000
namespace Go.Proofs.YtfpagfhhhlljjaaGreatDoor.Ho
open Sm Bins Cov Go.RowKit
open Bool renaming or_false→jQ,not_false→jC,false_eq_true→zA
open Int renaming toNat_natCast→qV
open List renaming mem_map→zL,getElem?_eq_getElem→jS,map_cons→jD,length_cons→zX,length_map→jH,length_nil→qM,getElem_mem→jP,contains_cons→jR,contains_nil→jJ,map_nil→jE,append_nil→jF,take_of_length_le→jW,drop_zero→zU
open Nat renaming le_trans→qG,reduceBEq→jO,reduceEqDiff→jB,reduceAdd→jM,add_zero→jK,zero_add→jG
open Option renaming getD_some→jA
theorem A6Q : ∀ l:List ByteArray,MI (l.map AFK)=true:=fun l=>by
 unfold MI
 rw[List.all_eq_true]
 intro row hr
 obtain⟨c,_,rfl⟩:=zL.1 hr; rfl
theorem A69 (h:Hp)(s:ByteArray):FM Tryz.prog false h 65 1 [(0,.str s)]=some (.sl .full 1 [[.str s]],h):=by kernel_rfl
theorem AWJ {m:Mo}{q:Nat × Nat}(h1:q.1 < m.pts.length)(h2:q.2 < m.pts[q.1].bins.length):nmQ m q=m.pts[q.1].bins[q.2].name:=by
 have hbe:IX m (q.1:Int)=m.pts[q.1].bins:=by unfold IX; rw[qV,jS h1]
 unfold nmQ YK
 rw[hbe,qV,jS h2]
theorem AO0 (xs:List ByteArray)(hN:xs.length≤4)(hl : ∀ x∈xs,x.size≤1099511627776):(YB xs).size≤4398046511107:=by
 show(YB xs).data.toList.length≤_
 unfold YB
 simp only
 cases xs with
 | nil=>simp [Lib.join_nil]
 | cons a t =>
   rw[jD,Lib.join_length]
   have hlens : ∀ l:List ByteArray,(∀ x∈l,x.size≤1099511627776)→Lib.lens (l.map (·.data.toList))≤l.length * 1099511627776:=by
    intro l
    induction l with
    | nil=>intro _; simp [Lib.lens]
    | cons y r ih =>
      intro hy
      have a1:=ih fun z hz=>hy z (List.mem_cons_of_mem _ hz)
      have a2:y.data.toList.length≤1099511627776:=hy y (by simp)
      simp only[Lib.lens,jD,List.sum_cons,zX] at a1 ⊢
      omega
   have a1:=hlens (a :: t) hl
   rw[jD] at a1
   rw[jH]
   simp only[zX,qM] at a1 hN ⊢
   omega
theorem AV5 {x:Hl}{L:List (Nat × Nat)}(hL:x.bins=L.map fun q=>(q.2:Int)){j:Nat}(hj:j < L.length) : ∃ hb:j < x.bins.length,x.bins[j]=((L[j].2:Nat):Int):=by
 have hb:j < x.bins.length:=by rw[hL,jH]; exact hj
 refine⟨hb,?_⟩
 have:x.bins[j]? = (L.map fun q=>((q.2:Nat):Int))[j]? := by rw[← hL]
 rw[jS hb,List.getElem?_map,jS hj] at this
 simpa using this
theorem ATR (a:ByteArray):YB [a]=a:=by
 apply AJ7
 unfold YB
 simp [Lib.join_one]
theorem AZ5 {m:Mo}(hm:MoOk m){x:Hl}(hv:QF m x=true) : ∃ q0,(RY m x)[0]? = some q0∧∃ nm0:ByteArray,nm0.size≤1099511627776∧prH m x=nm0++dot++YB ((RY m x).map (nmQ m))∧(x.cross=false→∃ h1:q0.1 < m.pts.length,nm0=m.pts[q0.1].name) ∧
  (x.cross=true→∃ i,∃ hi:i < m.crs.length,x.idx=(i:Int)∧nm0=m.crs[i].name):=by
 have hL:=AOK hv
 have hps:=hL.pts
 have hbn:=hL.bins
 have hl1:=hL.n1
 cases hc:x.cross
 ·obtain⟨i,hi,k,hk,hz,hb,hkd,hg⟩:=UH hv hc
  have hp:ABM m x = [(i:Int)]:=by unfold ABM; rw[if_neg (by rw[hc]; decide),hz]
  rw[hp] at hps
  have hpr:prH m x=m.pts[i].name++dot++YK m (i:Int) (k:Int):=by
   unfold prH
   rw[if_pos hv,if_neg (by rw[hc]; decide),hz,AC9 hi]
   show m.pts[i].name++dot++YK m x.idx (x.bins.headD 0)=_
   rw[hz,hb]; rfl
  rw[hb] at hbn
  generalize RY m x=L at hps hbn
  match L,hps,hbn with
  | [q],hps,hbn =>
    simp at hps hbn
    obtain⟨a,b⟩:=q
    simp at hps hbn
    obtain rfl:a=i:=by omega
    obtain rfl:b=k:=by omega
    exact⟨_,rfl,m.pts[a].name,qG (hm.pts _ (jP hi)).name (by omega),by rw[hpr]; exact congrArg _ (ATR _).symm,fun _=>⟨hi,rfl⟩,fun q=>by cases q⟩
 ·obtain⟨i,hi,hz,hin,hh,hg⟩:=UI hv hc
  have hp:ABM m x=m.crs[i].pts:=by unfold ABM; rw[if_pos hc,hz,Q7 hi]
  rw[hp] at hps
  have hpr:prH m x=prN m (m.crs[i].name++dot) true m.crs[i].pts x.bins:=by
   unfold prH
   rw[if_pos hv,if_pos hc,hz,Q7 hi]; rfl
  rw[hps,hbn] at hpr
  have hne:RY m x≠[]:=by intro q; rw[q] at hl1; simp at hl1
  rw[AV7 m _ hne] at hpr
  exact⟨_,jS (show 0 < (RY m x).length by omega),m.crs[i].name,qG (hm.crs _ (jP hi)).name (by omega),hpr,fun q=>(by cases q),fun _=>⟨i,hi,hz,rfl⟩⟩
section
variable (G:Nat→AV)
set_option maxHeartbeats 4000000 in
theorem AOL (hG:GOk G)(m:Mo)(hm:MoOk m)(x:Hl)(hn:x.bins.length≤1048576)(h:Hp):PCall (En G) 13 [.agg (EE m),.agg (JD x)] h (.str (prH m x)):=by
 refine ACalls.pure (R:=fun v H=>v = .str (prH m x)∧Sm.ext h H) 3 ?_ (fun v H ⟨a,b⟩=>⟨b,by rw[a]; rfl⟩)
 refine MJ (H:=hint [38] [(62,[61])]) (enM G) Tryz.func13 rfl (by kernel_rfl) (by kernel_rfl) (Nat.le_of_ble_eq_true (by kernel_rfl)) ?_
 show awp _ _ _ _ _ (EM _ [.tmp 4] _)
 have t:=Hb.mk' h m x
 simp -implicitDefEqProofs only[vQ,jR,jJ,jO,jQ,BD,↓reduceIte,jB,enP,zA,bxM,bxH]
 generalize h++[ABlk.live 2 [EE m]]++[ABlk.live 3 [JD x]]=H at t ⊢
 generalize (h++[ABlk.live 2 [EE m]]).length=hb at t ⊢
 simp -implicitDefEqProofs only[vQ,jR,jJ,jO,jQ,BD,↓reduceIte,jB,enP,zA,ldM t.gm,ldH t.gh]
 refine(valid_prog G hG m hm x hn H).use ?_
 cases hv:QF m x
 ·simp -implicitDefEqProofs only[vQ,jR,jJ,jO,jQ,BD,↓reduceIte,zA]
  exact⟨by unfold prH; rw[hv]; rfl,t.hx⟩
 have h0:=AQT hv
 have hL:=AOK hv
 have hhp : ∀ H,∃ s,PCall (En G) 32 [.agg (EE m),.agg (JD x)] H (.sl s 1 ((ABM m x).map Bins.qencI)):=fun H=>AHN G m x hv H
 have hps:=hL.pts
 rw[hps] at hhp
 obtain⟨s,hp⟩:=hhp H
 simp -implicitDefEqProofs only[vQ,jR,jJ,jO,jQ,BD,↓reduceIte,jB,Bool.not_true,enP,zA,ldM t.gm,ldH t.gh]
 refine hp.use ?_
 have hln:=hL.n4
 have hl1:=hL.n1
 have hnames : ∀ q∈RY m x,∃ h1:q.1 < m.pts.length,∃ h2:q.2 < m.pts[q.1].bins.length,nmQ m q=m.pts[q.1].bins[q.2].name∧(nmQ m q).size≤1099511627776:=fun q hq=>by
  obtain⟨h1,h2⟩:=hL.ok _ hq
  have hpo:=hm.pts _ (jP h1)
  exact⟨h1,h2,AWJ h1 h2,by rw[AWJ h1 h2]; exact(hpo.bins _ (jP h2)).name⟩
 have hbn:=hL.bins
 -- what it is to say
 have hsay:=AZ5 hm hv
 generalize RY m x=L at hL hln hl1 hnames hbn hsay hps hhp
 simp -implicitDefEqProofs only[vQ,jR,jJ,jO,jQ,BD,↓reduceIte,enP,IZ,zA,jH]
 refine GZ 0 (fun F H' => ∃ v,F 2 = .ptr h.length 0 0∧F 3 = .ptr hb 0 0∧F 5=v∧Sm.ext H H'∧outG 1 AFK H (L.map (nmQ m)) v H') (fun _ _=>False) ?_ ?_ (fun _ _ q=>q.elim)
 ·refine DL (fun n F H' => ∃ j v,n+j=L.length∧F 2 = .ptr h.length 0 0∧F 3 = .ptr hb 0 0∧F 5=v∧F 15 = .sl s 1 ((L.map fun q=>((q.1:Nat):Int)).map Bins.qencI)∧F 16 = .int .i64 (L.length:Nat)∧F 17 = .int .i64 (j:Nat)∧Sm.ext H H'∧outG 1 AFK H ((L.take j).map (nmQ m)) v H') L.length
   ⟨0,.sl .nil 0 [],by simp,by simp -implicitDefEqProofs only[AA,↓reduceIte,jB],by simp -implicitDefEqProofs only[AA,↓reduceIte,jB],by simp -implicitDefEqProofs only[AA,↓reduceIte,jB],by simp -implicitDefEqProofs only[AA,↓reduceIte,jB],by simp -implicitDefEqProofs only[AA,↓reduceIte,jB],by simp -implicitDefEqProofs only[AA,↓reduceIte] <;> rfl,ext.rfl' _,by rw[List.take_zero]; exact outG.nil _ _ _ _⟩ ?_
  rintro n F H' ⟨j,v,hj,f2,f3,f5,f15,f16,f17,hx,ho⟩
  simp -implicitDefEqProofs only[vQ,jR,jJ,jO,jQ,BD,↓reduceIte,enP,zA,f16,f17]
  refine CU (fun hc => ?_) (fun hc => ?_)
  ·have hj':j < L.length:=by simpa using hc
   have gm:=FD hx t.gm
   have gh:=FD hx t.gh
   obtain⟨hb2,hbj⟩:=AV5 hbn hj'
   have hj2:j < (L.map fun q=>((q.1:Nat):Int)).length:=by rw[jH]; exact hj'
   have hg:(L.map fun q=>((q.1:Nat):Int))[j]=((L[j].1:Nat):Int):=by simp
   obtain⟨q1,q2,hnm,hns⟩:=hnames _ (jP hj')
   have hlen:((L.take j).map (nmQ m)).length < 8388608:=by rw[jH,List.length_take]; omega
   obtain⟨v',H2,ha,ho2,_,he2,_,_⟩:=ho.append (P:=Tryz.prog) AZL sz9 AZC A1O (by omega) hlen hx (nmQ m L[j])
   have ha':GM Tryz.prog true H' 65 65 v (.sl .full 1 [[.str (nmQ m L[j])]])=some (v',H2):=ha
   rw[hnm] at ha'
   have hst:(L.take (j+1)).map (nmQ m)=(L.take j).map (nmQ m)++[nmQ m L[j]]:=by
    rw[List.take_succ_eq_append_getElem hj',List.map_append]; rfl
   simp -implicitDefEqProofs only[vQ,jR,jJ,jO,jQ,BD,↓reduceIte,jB,enP,IB,zA,f15,f17,DN hj2,CY ag3 hj2,Cov.encI0,hg]
   refine EY (by kernel_rfl) ?_
   simp -implicitDefEqProofs only[vQ,jR,jJ,jO,jQ,IP,BD,↓reduceIte,jB,jM,enP,PG,GU,IB,MP,SA,IE,AFE,zA,f2,f3,f5,f17,TC gm,DN q1,CY RD q1,NG,AES gh,DN hb2,CY ag3 hb2,Cov.encI0,hbj,DN q2,CY ag9 q2,AMZ,A69,ha',wrap_succ (show j < 9223372036854775807 by omega)]
   refine⟨n - 1,by omega,j+1,v',by omega,by first | exact True.intro | exact f2,by first | exact True.intro | exact f3,by first | exact True.intro | exact rfl,by first | exact True.intro | exact f15,by first | exact True.intro | exact f16,by first | exact True.intro | exact rfl,he2,by rw[hst]; exact ho2⟩
  ·have hj' : ¬ j < L.length:=by simpa using hc
   rw[jW (by omega)] at ho
   simp -implicitDefEqProofs only[vQ,↓reduceIte,jB]
   exact⟨v,by first | exact True.intro | exact f2,by first | exact True.intro | exact f3,by first | exact True.intro | exact f5,hx,ho⟩
 rintro F H' ⟨v,f2,f3,f5,hx,ho⟩
 obtain⟨q0,hq0,nm0,hns0,hsay,hs1,hs2⟩:=hsay
 obtain⟨h0L,hq0'⟩:=List.getElem?_eq_some_iff.1 hq0
 have hj2:0 < (L.map fun q=>((q.1:Nat):Int)).length:=by rw[jH]; exact h0L
 have hg0:(L.map fun q=>((q.1:Nat):Int))[0]=((q0.1:Nat):Int):=by simp [hq0']
 have hne:L.map (nmQ m)≠[]:=by intro q; have:=congrArg List.length q; rw[jH,qM] at this; omega
 have hsz : ∀ y∈L.map (nmQ m),y.size≤1099511627776:=fun y hy=>by
  obtain⟨q,hq,rfl⟩:=zL.1 hy
  obtain⟨_,_,_,h4⟩:=hnames q hq
  exact h4
 have hln4:(L.map (nmQ m)).length≤4:=by rw[jH]; exact hln
 have hjs:=AO0 _ hln4 hsz
 obtain⟨q1,_,_,_⟩:=hnames q0 (by rw[← hq0']; exact jP h0L)
 have gm:=FD hx t.gm
 have gh:=FD hx t.gh
 have l0:=AOY gh
 have a1:=AQZ (a:=nm0) (b:=dot) (by rw[AM3]; omega)
 have a2:=AQZ (a:=nm0++dot) (b:=YB (L.map (nmQ m))) (by rw[ByteArray.size_append,AM3]; omega)
 obtain⟨s',hp2⟩:=hhp H'
 have hix0:J3 1 H' (.sl s' 1 ((L.map fun q=>((q.1:Nat):Int)).map Bins.qencI)) (.int .i64 0)=some (.fptr 1 ((L.map fun q=>((q.1:Nat):Int)).map Bins.qencI) 0 0):=DN hj2
 have hld0:D8 Tryz.prog H' 3 (.fptr 1 ((L.map fun q=>((q.1:Nat):Int)).map Bins.qencI) 0 0)=some (.int .i64 (q0.1:Nat)):=(CY ag3 hj2).trans (by rw[hg0]; rfl)
 generalize hN:L.map (nmQ m)=NS at ho hne hsz hln4 hjs a2 hsay
 obtain⟨o,rfl,ho1,hob⟩ : ∃ o,v = .own o 0 NS.length∧H.length≤o∧H'[o]? = some (.live 1 (NS.map AFK)):=by
  rcases ho with⟨e1,_⟩ | ⟨_,o,h1,h2,h3⟩
  ·exact absurd e1 hne
  ·exact⟨o,h2,h1,h3⟩
 have hz:=AMH (i:=61) (off:=0) (len:=NS.length) hob (by simp) (by rw[zU,jW (by simp)]; exact A6Q NS)
 rw[zU,jW (by simp)] at hz
 have hx2:=t.hx.trans (hx.set ho1 .dead)
 have hjp:=fun H=>ATQ G NS .any hne hln4 hsz H
 simp -implicitDefEqProofs only[vQ,↓reduceIte]
 refine EY (by kernel_rfl) ?_
 simp -implicitDefEqProofs only[vQ,jR,jJ,jO,jQ,↓reduceIte,jB,jM,enP,GU,IB,f2,f3,ldM gm,TC gm,ldH gh]
 refine⟨_,hp2,?_⟩
 simp -implicitDefEqProofs only[vQ,jR,jJ,jO,jQ,BD,↓reduceIte,jB,jM,enP,PG,AFF,zA,hix0,hld0,DN q1,CY ag9 q1,AMW,l0]
 cases hcr:x.cross
 ·obtain⟨_,e⟩:=hs1 hcr
  rw[e] at a1 a2
  simp -implicitDefEqProofs only[vQ,jR,jJ,jO,jQ,BD,↓reduceIte,jB,enP,XA,zA,f3,l0,hcr,f5,a1,AE1,hz]
  refine(hjp _).use ?_
  simp -implicitDefEqProofs only[vQ,jR,jJ,jO,jQ,BD,↓reduceIte,jB,enP,zA,a1,a2]
  exact⟨by rw[hsay,e],hx2⟩
 ·obtain⟨i,hi,hz2,e⟩:=hs2 hcr
  have l1:=AET gh
  rw[hz2] at l1
  rw[e] at a1 a2
  simp -implicitDefEqProofs only[vQ,jR,jJ,jO,jQ,BD,↓reduceIte,jB,enP,P5,IV,XA,LY,AFD,zA,f2,f3,l0,hcr,l1,XW gm,DN hi,CY ag9 hi,AMY,f5,a1,AE1,hz]
  refine(hjp _).use ?_
  simp -implicitDefEqProofs only[vQ,jR,jJ,jO,jQ,BD,↓reduceIte,jB,enP,zA,a1,a2]
  exact⟨by rw[hsay,e],hx2⟩
end
end Go.Proofs.YtfpagfhhhlljjaaGreatDoor.Ho
set_option linter.unusedSimpArgs false
set_option maxRecDepth 8000
namespace Go.Proofs.YtfpagfhhhlljjaaGreatDoor.Ho
open Sm Bins Cov Xe Go.RowKit
open Bool renaming not_false→jC,not_true→jU
open List renaming map_nil→jE,append_nil→jF,mem_cons→qJ,map_cons→jD,getElem?_cons_zero→zB,getElem?_cons_succ→zD
open Nat renaming le_refl→jL,le_of_ble_eq_true→jI,reduceEqDiff→jB,reduceAdd→jM,zero_add→jG
open Option renaming getD_some→jA,getD_none→jT
abbrev TP:ByteArray:=⟨#[107,105,110,100]⟩
def kE:Ex := .mk 2 0 TP .nil []
def A80:Bin:=mkB ⟨#[108,111,119]⟩ 0 0 3
def A81:Bin:=mkB ⟨#[98,97,100]⟩ 2 2 2
def kP:Pt:=⟨⟨#[112]⟩,kE,.full,[A80,A81]⟩
def kM:Mo:=⟨.full,[kP],.nil,[]⟩
def kH:Hl:=⟨false,0,.full,[0]⟩
def wE:List AV := [.int .i64 2,.int .i64 0,.str TP,.sl .nil 0 []]
def wL:List AV:=rowB ⟨#[108,111,119]⟩ 0 0 3
def wB:List AV:=rowB ⟨#[98,97,100]⟩ 2 2 2
def wP:List AV := .str ⟨#[112]⟩ :: (wE++[.sl .full 4 [wL,wB]])
def wM:List AV := [.sl .full 6 [wP],.sl .nil 0 []]
theorem wcB (s:ByteArray)(k lo hi:Int):CvRow (rowB s k lo hi) (G9 (mkB s k lo hi)):=CvRow.cons rfl (Cv.refl _) (CvRow.cons rfl (Cv.refl _) (CvRow.cons rfl (Cv.refl _) (CvRow.cons rfl (Cv.nil 0 1) CvRow.nil)))
theorem wcP (s:ByteArray){xs ys:List (List AV)}(h:Cv (.sl .full 4 xs) (.sl .full 4 ys)):CvRow (.str s :: (wE++[.sl .full 4 xs])) (.str s :: (DX kE++[.sl .full 4 ys])) :=
 CvRow.cons rfl (Cv.refl _) (CvRow.cons rfl (Cv.refl _) (CvRow.cons rfl (Cv.refl _) (CvRow.cons rfl (Cv.refl _) (CvRow.cons rfl (Cv.nil 0 4) (CvRow.cons rfl h CvRow.nil)))))
theorem wc2 {m:SM}{k:Nat}{a b a' b':List AV}(h1:CvRow a a')(h2:CvRow b b'):Cv (.sl m k [a,b]) (.sl m k [a',b']):=Cv.rows rfl fun i r r' e1 e2=>by
 match i,e1,e2 with
 | 0,e1,e2=>cases e1; cases e2; exact h1
 | 1,e1,e2=>cases e1; cases e2; exact h2
 | _+2,e1,_=>cases e1
theorem wc1 {m:SM}{k:Nat}{a a':List AV}(h1:CvRow a a'):Cv (.sl m k [a]) (.sl m k [a']):=Cv.rows rfl fun i r r' e1 e2=>by
 match i,e1,e2 with
 | 0,e1,e2=>cases e1; cases e2; exact h1
 | _+1,e1,_=>cases e1
theorem A46:CvR (.agg wM) (.agg (EE kM)) :=
 CvR.agg (CvRL.cons (CvR.sl (wc1 (wcP _ (wc2 (wcB _ _ _ _) (wcB _ _ _ _))))) (CvRL.cons (CvR.sl (Cv.nil 0 3)) CvRL.nil))
theorem A7Z (h:Hp):KN Tryz.prog h 48=some (.ptr h.length 0 0,h++[.live 4 [[.int .i64 0,.int .i64 0,.str ⟨#[]⟩,.sl .nil 0 []]]]):=KD (row := [.int .i64 0,.int .i64 0,.str ⟨#[]⟩,.sl .nil 0 []]) (by kernel_rfl)
theorem A5G (h:Hp)(row:List AV)(hr:row.length=4):FP Tryz.prog (h++[.live 4 [row]]) 48 (.ptr h.length 0 0) (.agg [.int .i64 2,.int .i64 0,.str TP,.sl .nil 0 []])=some (h++[.live 4 [wE]]):=by
 have h1:=OW (P:=Tryz.prog) (t:=48) (h:=h) (k:=4) (j:=0) (row:=row) (cs:=wE) (v := .agg wE) rfl N7 (by rw[hr]; exact jL 4)
 have h2:splice row 0 wE=wE:=by unfold splice; simp [hr,wE]
 rw[h2] at h1
 exact h1
theorem A7K (s:ByteArray)(xs:List (List AV)):LM Tryz.prog 56 [(0,.str s),(2,.sl .full 2 xs)]=some (.agg [.str s,.int .i64 0,.sl .full 2 xs,.sl .nil 0 []]):=by kernel_rfl
theorem A7B (h:Hp):FM Tryz.prog false h 49 2 [(0,.agg wL),(1,.agg wB)]=some (.sl .full 4 [wL,wB],h):=by kernel_rfl
theorem A7L (s:ByteArray)(xs:List (List AV)):LM Tryz.prog 51 [(0,.str s),(1,.agg wE),(2,.sl .full 4 xs)]=some (.agg (.str s :: (wE++[.sl .full 4 xs]))):=by kernel_rfl
theorem A7H (h:Hp):FM Tryz.prog false h 22 1 [(0,.agg wP)]=some (.sl .full 6 [wP],h):=by kernel_rfl
theorem A7R:LM Tryz.prog 25 [(0,.sl .full 6 [wP])]=some (.agg wM):=by kernel_rfl
theorem A2O {H:Hp}{b:Nat}{row:List AV}(hb:H[b]? = some (.live 4 [row]))(hr:row.length=4):D8 Tryz.prog H 56 (.ptr b 0 0)=some (.agg row):=by
 rw[IJ AC6 YQ hb rfl (by rw[hr]; exact jL 4),List.drop_zero,List.take_of_length_le (by omega)]
structure Bk (h H:Hp) (b1 b2:Nat):Prop where
 g0:H[h.length]? = some (.live 2 [[.sl .nil 0 [],.sl .nil 0 []]])
 g1:H[b1]? = some (.live 4 [wL])
 g2:H[b2]? = some (.live 4 [wB])
 hx:Sm.ext h H
theorem Bk.mk' (h:Hp):Bk h (h++[ABlk.live 2 [[.sl .nil 0 [],.sl .nil 0 []]]]++[ABlk.live 4 [wL]]++[ABlk.live 4 [wB]]) (h++[ABlk.live 2 [[.sl .nil 0 [],.sl .nil 0 []]]]).length (h++[ABlk.live 2 [[.sl .nil 0 [],.sl .nil 0 []]]]++[ABlk.live 4 [wL]]).length :=
 ⟨CX (CX (CZ _ _)),CX (CZ _ _),CZ _ _,(((ext.rfl' h).app _).app _).app _⟩
section
variable (G:Nat→AV)
theorem A39 (h:Hp):PCall (En G) 49 [] h (.agg wE):=by
 refine ACalls.pure 3 (R:=fun v H=>v = .agg wE∧Sm.ext h H) ?_ (fun v h' ⟨e,x⟩=>⟨x,by subst e; rfl⟩)
 refine acN Tryz.func49 rfl ?_
 show awp _ _ _ _ _ (EM _ [.cell 0 48] _)
 simp -implicitDefEqProofs only[vQ,BD,↓reduceIte,jB,enP,jT,A7Z,A9K,A5G _ [.int .i64 0,.int .i64 0,.str ⟨#[]⟩,.sl .nil 0 []] rfl]
 refine⟨trivial,.agg wE,?_,rfl,?_⟩
 ·exact UT (P:=Tryz.prog) (h:=h) (k:=4) (row:=wE) X4 N7 (jL 4)
 ·exact(ext.rfl' h).app _
set_option maxHeartbeats 2000000 in
theorem ADC (h:Hp):PCall (En G) 26 [] h (.agg (EE kM)):=by
 refine PCall.res (r := .agg wM) ?_ A46
 refine ACalls.pure 3 (R:=fun v H=>v = .agg wM∧Sm.ext h H) ?_ (fun v h' ⟨e,x⟩=>⟨x,by subst e; rfl⟩)
 refine acN Tryz.func26 rfl ?_
 show awp _ _ _ _ _ (EM _ [.cell 0 25] _)
 have E:=Bk.mk' h
 have r1:rowB ⟨#[108,111,119]⟩ 0 0 3=wL:=rfl
 have r2:rowB ⟨#[98,97,100]⟩ 2 2 2=wB:=rfl
 simp -implicitDefEqProofs only[vQ,BD,↓reduceIte,jB,enP,jT,A9O,A7V,A67,A9J,A7K,AYX,A5F _ _ _ _ _ [.str ⟨#[]⟩,.int .i64 0,.sl .nil 0 [],.sl .nil 0 []] rfl,r1,r2]
 generalize h++[ABlk.live 2 [[.sl .nil 0 [],.sl .nil 0 []]]]++[ABlk.live 4 [wL]]++[ABlk.live 4 [wB]]=H at E ⊢
 generalize (h++[ABlk.live 2 [[.sl .nil 0 [],.sl .nil 0 []]]]++[ABlk.live 4 [wL]]).length=b2 at E ⊢
 generalize (h++[ABlk.live 2 [[.sl .nil 0 [],.sl .nil 0 []]]]).length=b1 at E ⊢
 have hst:FP Tryz.prog H 25 (.ptr h.length 0 0) (.agg wM)=some (H.set h.length (.live 2 [wM])):=by
  rw[MK (v := .agg wM) (cs:=wM) (row := [.sl .nil 0 [],.sl .nil 0 []]) rfl A3M E.g0 (jL 2)]; rfl
 have p1:AV.str ⟨#[112]⟩ :: (wE++[.sl .full 4 [wL,wB]])=wP:=rfl
 refine EY (by kernel_rfl) ?_
 simp -implicitDefEqProofs only[vQ,↓reduceIte,jB,jM,enP]
 refine⟨_,A39 G H,?_⟩
 simp -implicitDefEqProofs only[vQ,ZH,IP,↓reduceIte,jB,jM,enP,jT,A2O E.g1 rfl,A2O E.g2 rfl,A7B,A7L,p1,A7H,A7R,hst]
 rw[Y7 (b:=h.length) (by simp -implicitDefEqProofs only[AA,↓reduceIte,jB]) (x := .agg wM) (by rw[IJ A78 A3M (EG E.g0) rfl (jL 2)]; rfl)]
 exact⟨rfl,E.hx.set (jL _) _⟩
end
theorem k_e:cnE J9 kM kH=0:=by decide +kernel
theorem A8Y:prH kM kH=⟨#[112,46,108,111,119]⟩:=by decide +kernel
theorem A6I:(cnL J9 kM kH).map (·.map Ex.op) = [[23,4]]:=by decide +kernel
theorem A6G:htV kM kH (UO kM [[(TP,3)]]) (QX kM [[(TP,3)]])=(true,0):=by decide +kernel
theorem A8Z:htV kM kH (UO kM [[(TP,2)]]) (QX kM [[(TP,2)]])=(false,0):=by decide +kernel
theorem AW4:MoOk kM:=⟨by decide,by decide,fun p hp=>by
 simp only[kM,qJ,List.not_mem_nil,or_false] at hp
 subst hp
 exact⟨by decide +kernel,by decide,by decide,fun b hb=>by
  simp only[kP,qJ,List.not_mem_nil,or_false] at hb
  rcases hb with rfl | rfl <;> exact⟨by decide,by decide,by decide,by decide⟩⟩,fun c hc=>by cases hc⟩
theorem A6H : ∃ a b:Ex,cnL J9 kM kH = [[a,b]]∧a.op=23∧b.op=4:=by
 have h:=A6I
 generalize cnL J9 kM kH=c at h
 rcases c with _ | ⟨r,_ | ⟨r2,t⟩⟩
 ·cases h
 ·rcases r with _ | ⟨a,_ | ⟨b,_ | ⟨c,t⟩⟩⟩
  ·cases h
  ·simp at h
  ·simp at h
   exact⟨a,b,rfl,h.1,h.2⟩
  ·simp at h
 ·simp at h
theorem A70 (h:Hp):KN Tryz.prog h 28=some (.ptr h.length 0 0,h++[.live 3 [[.bool false,.int .i64 0,.sl .nil 0 []]]]):=KD (row := [.bool false,.int .i64 0,.sl .nil 0 []]) (by kernel_rfl)
theorem A5H (h:Hp)(row:List AV)(hr:row.length=3):FP Tryz.prog (h++[.live 3 [row]]) 28 (.ptr h.length 0 0) (.agg [.bool false,.int .i64 0,.sl .full 1 [[.int .i64 0]]])=some (h++[.live 3 [JD kH]]):=by
 have h1:=OW (P:=Tryz.prog) (t:=28) (h:=h) (k:=3) (j:=0) (row:=row) (cs:=JD kH) (v := .agg (JD kH)) rfl A3L (by rw[hr]; exact jL 3)
 have h2:splice row 0 (JD kH)=JD kH:=by unfold splice; simp [hr,JD]
 rw[h2] at h1
 exact h1
theorem A7G (h:Hp)(a:Int):FM Tryz.prog false h 26 1 [(0,.int .i64 a)]=some (.sl .full 1 [[.int .i64 a]],h):=by kernel_rfl
theorem A24 (s:ByteArray)(a:Int):LM Tryz.prog 59 [(0,.str s),(1,.int .i64 a)]=some (.agg [.str s,.int .i64 a]):=by kernel_rfl
theorem A20 (h:Hp)(s:ByteArray)(a:Int):FM Tryz.prog false h 60 1 [(0,.agg [.str s,.int .i64 a])]=some (.sl .full 2 [[.str s,.int .i64 a]],h):=by kernel_rfl
theorem A23 (h:Hp)(xs:List (List AV)):FM Tryz.prog false h 38 1 [(0,.sl .full 2 xs)]=some (.sl .full 1 [[.sl .full 2 xs]],h):=by kernel_rfl
def kSs (n:Int):Ss:=⟨.full,[(TP,n)]⟩
section
variable (G:Nat→AV)
theorem A6F (hG:GOk G)(hT:VW G)(n:Int)(hn:XF (TP,n))(h:Hp):PCall (En G) 19 [.agg (EE kM),.agg (JD kH),.sl .full 1 [[.sl .full 2 [[.str TP,.int .i64 n]]]]] h (.tup [.bool (htV kM kH (UO kM [[(TP,n)]]) (QX kM [[(TP,n)]])).1,.int .i64 (htV kM kH (UO kM [[(TP,n)]]) (QX kM [[(TP,n)]])).2]) :=
 hit_prog G hG hT kM AW4 kH (by decide) [kSs n] .full h (by simp) (fun x hx=>by
  rw[List.mem_singleton.1 hx]
  exact⟨by simp [kSs],fun s hs=>by rw[List.mem_singleton.1 hs]; exact hn⟩)
set_option maxHeartbeats 2000000 in
theorem ADL (hG:GOk G)(hT:VW G)(h:Hp):PCall (En G) 10 [] h (.bool true):=by
 refine ACalls.pure0 rfl ?_
 refine acN Tryz.func10 rfl ?_
 show awp _ _ _ _ _ (EM _ [.tmp 0] _)
 simp -implicitDefEqProofs only[vQ,BD,↓reduceIte,jB,enP,jT,A7G,A7J,A70,A5H _ [.bool false,.int .i64 0,.sl .nil 0 []] rfl]
 have g:=CZ h (ABlk.live 3 [JD kH])
 have hx:=(ext.rfl' h).app [ABlk.live 3 [JD kH]]
 generalize h++[ABlk.live 3 [JD kH]]=H at g hx ⊢
 have hv:QF kM kH=true:=by decide +kernel
 have hC:=AGH G hG kM AW4 kH (by decide) H
 obtain⟨a,b,hab,ha,hb⟩:=A6H
 have hcv:cnV J9 kM kH = .tup [.sl .any 1 [V6 [a,b]],.int .i64 0]:=by
  unfold cnV
  rw[k_e,hab]; rfl
 rw[hcv] at hC
 have h3:=A6F G hG hT 3 (by constructor <;> decide) H
 rw[A6G] at h3
 have h2:=A6F G hG hT 2 (by constructor <;> decide) H
 rw[A8Z] at h2
 have hP:=AOL G hG kM AW4 kH (by decide) H
 rw[A8Y] at hP
 refine EY (by kernel_rfl) ?_
 simp -implicitDefEqProofs only[vQ,↓reduceIte,jB,jM,enP]
 refine⟨_,ADC G H,?_⟩
 simp -implicitDefEqProofs only[vQ,KP,↓reduceIte,jB,jM,ldH g]
 refine⟨_,hC,?_⟩
 simp -implicitDefEqProofs only[vQ,zB,zD,KP,↓reduceIte,jB,jM]
 refine EY (by kernel_rfl) ?_
 simp -implicitDefEqProofs only[vQ,↓reduceIte,jB,jM,enP]
 refine⟨_,ADC G H,?_⟩
 simp -implicitDefEqProofs only[vQ,ZH,IP,KP,↓reduceIte,jB,jM,enP,ldH g,A24,A20,A23]
 refine⟨_,h3,?_⟩
 simp -implicitDefEqProofs only[vQ,zB,zD,KP,↓reduceIte,jB,jM]
 refine EY (by kernel_rfl) ?_
 simp -implicitDefEqProofs only[vQ,↓reduceIte,jB,jM,enP]
 refine⟨_,ADC G H,?_⟩
 simp -implicitDefEqProofs only[vQ,ZH,IP,KP,↓reduceIte,jB,jM,enP,ldH g,A24,A20,A23]
 refine⟨_,h2,?_⟩
 simp -implicitDefEqProofs only[vQ,zB,zD,KP,↓reduceIte,jB,jM]
 refine EY (by kernel_rfl) ?_
 have i0:J3 1 H (.sl .any 1 [V6 [a,b]]) (.int .i64 0)=some (.fptr 1 [V6 [a,b]] 0 0):=rfl
 have d0:D8 Tryz.prog H 46 (.fptr 1 [V6 [a,b]] 0 0)=some (.sl .any 4 [DX a,DX b]):=Z8 (row:=V6 [a,b]) VT rfl rfl
 have j0:J3 4 H (.sl .any 4 [DX a,DX b]) (.int .i64 0)=some (.fptr 4 [DX a,DX b] 0 0):=rfl
 have j1:J3 4 H (.sl .any 4 [DX a,DX b]) (.int .i64 1)=some (.fptr 4 [DX a,DX b] 1 0):=rfl
 have m0:D8 Tryz.prog H 3 (.fptr 4 [DX a,DX b] 0 0)=some (.int .i64 23):=Z8 (row:=DX a) ag3 rfl (by rw[JJ,ha]; rfl)
 have m1:D8 Tryz.prog H 3 (.fptr 4 [DX a,DX b] 1 0)=some (.int .i64 4):=Z8 (row:=DX b) ag3 rfl (by rw[JJ,hb]; rfl)
 have c2:(((2:Nat):Int) == 2)=true:=rfl
 have c1:(((1:Nat):Int) == 1)=true:=rfl
 simp -implicitDefEqProofs only[vQ,QN,AGI,CP,↓reduceIte,jB,jM,Nat.add_zero,enP,ATT,AOW,AAC,WS,I7,beq_self_eq_true,List.length_cons,List.length_nil,c1,c2,i0,d0,j0,j1,m0,m1]
 refine⟨_,ADC G H,?_⟩
 simp -implicitDefEqProofs only[vQ,QN,CP,↓reduceIte,jB,jM,enP,ldH g]
 refine⟨_,hP,?_⟩
 simp -implicitDefEqProofs only[vQ,LV,↓reduceIte,jB,jM]
 exact⟨by rw[beq_self_eq_true],hx⟩
end
section
variable (G:Nat→AV)
set_option maxHeartbeats 1000000 in
theorem A41 (hG:GOk G)(hT:VW G)(m:Mo)(hm:MoOk m)(x:Hl)(hn:x.bins.length≤1048576)(l:List Ss)(s:SM)(h:Hp)(hl:l.length≤1048576)(he : ∀ x∈l,x.l.length≤1048576∧∀ s∈x.l,XF s):PCall (En G) 5 [.agg (EE m),.agg (JD x),.sl s 1 (l.map TQ)] h (.bool true):=by
 refine ACalls.pure0 rfl ?_
 refine acN Tryz.func5 rfl ?_
 show awp _ _ _ _ _ (EM _ [.tmp 6] _)
 have t:=Hb.mk' h m x
 simp -implicitDefEqProofs only[vQ,BD,↓reduceIte,jB,enP,bxM,bxH]
 generalize h++[ABlk.live 2 [EE m]]++[ABlk.live 3 [JD x]]=H at t ⊢
 generalize (h++[ABlk.live 2 [EE m]]).length=hb at t ⊢
 simp -implicitDefEqProofs only[vQ,BD,↓reduceIte,ldM t.gm]
 refine(AO8 G m hm H).use ?_
 intro b
 cases b
 ·simp -implicitDefEqProofs only[vQ,CP,BD,EW,↓reduceIte,jB]
  refine(ADL G hG hT H).use ?_
  simp -implicitDefEqProofs only[vQ,BD,↓reduceIte]
  exact⟨by trivial,t.hx⟩
 simp -implicitDefEqProofs only[vQ,CP,BD,↓reduceIte,jB,jU,enP,IZ,MP,AES t.gh,List.length_map]
 rcases Bool.eq_false_or_eq_true (decide (((x.bins.length:Nat):Int) > 10)) with h1 | h1
 ·simp -implicitDefEqProofs only[vQ,CP,BD,EW,↓reduceIte,jB,h1]
  refine(ADL G hG hT H).use ?_
  simp -implicitDefEqProofs only[vQ,BD,↓reduceIte]
  exact⟨by trivial,t.hx⟩
 simp -implicitDefEqProofs only[vQ,CP,BD,↓reduceIte,jB,h1]
 refine(A1R G l s hl (fun x hx=>(he x hx).1) H).use ?_
 intro b
 cases b
 ·simp -implicitDefEqProofs only[vQ,CP,BD,↓reduceIte,jB]
  refine(ADL G hG hT H).use ?_
  simp -implicitDefEqProofs only[vQ,BD,↓reduceIte]
  exact⟨by trivial,t.hx⟩
 simp -implicitDefEqProofs only[vQ,CP,BD,↓reduceIte,jB,jU,enP,ldM t.gm,ldH t.gh]
 refine(hit_prog G hG hT m hm x hn l s H hl he).use ?_
 simp -implicitDefEqProofs only[vQ,zB,zD,BD,↓reduceIte,jB,enP,ldM t.gm,ldH t.gh]
 refine(hit_ref G m hm x hn l s H hl he).use ?_
 simp -implicitDefEqProofs only[vQ,zB,zD,CP,BD,↓reduceIte,jB,enP,be4,beq_self_eq_true]
 refine(ADL G hG hT H).use ?_
 simp -implicitDefEqProofs only[vQ,BD,↓reduceIte,jB]
 exact⟨by trivial,t.hx⟩
end
end Go.Proofs.YtfpagfhhhlljjaaGreatDoor.Ho
