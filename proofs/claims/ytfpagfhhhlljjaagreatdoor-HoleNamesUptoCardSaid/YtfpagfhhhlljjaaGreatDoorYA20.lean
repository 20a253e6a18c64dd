/- Part 20 of the proof (O38, O39, O40, O41, O43, O44, O45); no condition. -/
import Derived.Shelf.Strings.OnBuilder
import Derived.Test.YtfpagfhhhlljjaaGreatDoorYA19
set_option linter.unusedVariables false
namespace Go.Proofs.YtfpagfhhhlljjaaGreatDoor.Ho
open Sm Bins Cov Go.RowKit
open List renaming map_cons→jE,length_cons→zX,length_map→jH
def AFF:Go.Shelf.Ren:=⟨fun | 156=>33 | 165=>62 | 166=>63 | 169=>64 | 240=>98 | 241=>99 | 276=>140 | 277=>141 | n=>n,fun | 31=>65 | 9=>9 | 3=>3 | 4=>4 | 0=>0 | 20=>20 | 72=>102 | 76=>106 | 70=>99 | 37=>100 | 75=>105 | 127=>141 | 164=>170 | 5=>5 | 80=>108 | n=>n,fun | n=>n⟩
theorem A2X:Go.Proofs.Lays.n156 Tryz.prog AFF := {
 mixed:=by kernel_rfl,
 f156:=Tryz.func33.trans (congrArg some (by kernel_rfl)),
 f165:=Tryz.func62.trans (congrArg some (by kernel_rfl)),
 f166:=Tryz.func63.trans (congrArg some (by kernel_rfl)),
 f169:=Tryz.func64.trans (congrArg some (by kernel_rfl)),
 f240:=Tryz.func98.trans (congrArg some (by kernel_rfl)),
 f241:=Tryz.func99.trans (congrArg some (by kernel_rfl)),
 f276:=Tryz.func140.trans (congrArg some (by kernel_rfl)),
 f277:=Tryz.func141.trans (congrArg some (by kernel_rfl)),
 t0:=Tryz.underlying0,
 a0:=Tryz.isAgg0,
 z0:=Tryz.sizeOf0,
 v0:=Tryz.zeroValue0,
 t3:=Tryz.underlying3,
 a3:=Tryz.isAgg3,
 z3:=Tryz.sizeOf3,
 v3:=Tryz.zeroValue3,
 t4:=Tryz.underlying4,
 a4:=Tryz.isAgg4,
 z4:=Tryz.sizeOf4,
 v4:=Tryz.zeroValue4,
 t9:=Tryz.underlying9,
 a9:=Tryz.isAgg9,
 z9:=Tryz.sizeOf9,
 v9:=Tryz.zeroValue9,
 t20:=Tryz.underlying20,
 a20:=Tryz.isAgg20,
 z20:=Tryz.sizeOf20,
 v20:=Tryz.zeroValue20,
 t31:=Tryz.underlying65,
 a31:=Tryz.isAgg65,
 z31:=Tryz.sizeOf65,
 v31:=Tryz.zeroValue65,
 t37:=Tryz.underlying100,
 a37:=Tryz.isAgg100,
 z37:=Tryz.sizeOf100,
 v37:=Tryz.zeroValue100,
 t70:=Tryz.underlying99,
 a70:=Tryz.isAgg99,
 z70:=Tryz.sizeOf99,
 v70:=Tryz.zeroValue99,
 t72:=Tryz.underlying102,
 a72:=Tryz.isAgg102,
 z72:=Tryz.sizeOf102,
 v72:=Tryz.zeroValue102,
 t75:=Tryz.underlying105,
 a75:=Tryz.isAgg105,
 z75:=Tryz.sizeOf105,
 v75:=Tryz.zeroValue105,
 t76:=Tryz.underlying106,
 a76:=Tryz.isAgg106,
 z76:=Tryz.sizeOf106,
 v76:=Tryz.zeroValue106,
 t127:=Tryz.underlying141,
 a127:=Tryz.isAgg141,
 z127:=Tryz.sizeOf141,
 v127:=Tryz.zeroValue141,
 t164:=Tryz.underlying170,
 a164:=Tryz.isAgg170,
 z164:=Tryz.sizeOf170,
 v164:=Tryz.zeroValue170 }
theorem A2W:Builder.Extra Tryz.prog AFF := {
 t5:=Tryz.underlying5,
 a5:=Tryz.isAgg5,
 z5:=Tryz.sizeOf5,
 v5:=Tryz.zeroValue5,
 infoByte:=by kernel_rfl,
 cellsByte:=by kernel_rfl,
 sizeByte:=by kernel_rfl,
 neB5:=by decide,
 sizeBuilder:=by kernel_rfl,
 liesBuilder:=by kernel_rfl }
def UE (xs:List ByteArray):ByteArray:=⟨(Lib.join (xs.map (·.data.toList)) [44]).toArray⟩
def ADE (s:ByteArray):List AV := [.str s]
theorem AQP (G:Nat→AV) (xs:List ByteArray) (s:SM) (hne:xs≠[]) (hN:xs.length≤4) (hl : ∀ x∈xs,x.size≤1099511627776) (h:Hp):PCall (En G) 33 [.sl s 1 (xs.map ADE),.str comma] h (.str (UE xs)):=by
 refine ⟨cok 33 G (by kernel_rfl),fun g w cargs S ha => ?_⟩
 obtain ⟨hsz,hget⟩:=ha
 obtain ⟨cv0,cv1,rfl⟩ : ∃ a b,cargs = #[a,b]:=by
  obtain ⟨l⟩:=cargs
  match l,hsz with
  | [a,b],_=>exact ⟨a,b,rfl⟩
 have h0:=(hget 0 _ cv0 rfl rfl).sl_inv
 obtain rfl:=(hget 1 _ cv1 rfl rfl).str_inv
 generalize hq:xs.map ADE=rows at h0
 cases h0 with
 | nil=>cases xs with
   | nil=>exact absurd rfl hne
   | cons a t=>cases hq
 | empty=>cases xs with
   | nil=>exact absurd rfl hne
   | cons a t=>cases hq
 | sl m k rs cb co c e fz cap cv h1 h2 h3 h4 h5 h6 h7 h8 =>
   subst hq
   have hlen:(Lib.join (xs.map (·.data.toList)) comma.data.toList).length≤140737488355328:=by
    cases xs with
    | nil=>exact absurd rfl hne
    | cons a t =>
      rw [jE,Lib.join_length]
      have hlens : ∀ l:List ByteArray,(∀ x∈l,x.size≤1099511627776)→Lib.lens (l.map (·.data.toList))≤l.length * 1099511627776:=by
       intro l
       induction l with
       | nil=>intro _; simp [Lib.lens]
       | cons y r ih =>
         intro hy
         have a1:=ih fun z hz=>hy z (List.mem_cons_of_mem _ hz)
         have a2:y.data.toList.length≤1099511627776:=hy y (by simp)
         simp only [Lib.lens,jE,List.sum_cons,zX] at a1 ⊢
         omega
      have a1:=hlens (a :: t) hl
      rw [jE] at a1
      have a3:comma.data.toList.length=1:=rfl
      rw [a3,jH]
      simp only [zX] at a1 hN ⊢
      omega
   have hcall:=Any.strings_Join A2X A2W cb co cap xs comma w (fun j x hx => ?_) ?_ (by omega) (by simpa using h7) hlen
   ·rw [jH]
    refine hcall.mono ?_
    rintro e' w' ⟨rfl,hb⟩
    exact ⟨_,_,g,h,rfl,⟨rfl,rfl⟩,Gh.le.refl g,S.below hb,.fro (.str _)⟩
   ·obtain ⟨hj,rfl⟩:=List.getElem?_eq_some_iff.1 hx
    have hc5:=h5 j 0 (by rw [jH]; exact hj) (by omega)
    have hc6:=h6 j 0 (ADE xs[j]) (.str xs[j]) (by rw [List.getElem?_map,List.getElem?_eq_getElem hj]; rfl) rfl
    have hc7:cv j 0 = .string xs[j]:=(Rep.fro (g:=g) hc6).str_inv
    rw [Nat.mul_one,Nat.add_zero,hc7] at hc5
    have hm:=S.fro _ _ h3
    simp only [World.cell?,hm]
    exact hc5
   ·exact (Array.getElem?_eq_some_iff.1 (S.fro _ _ h3)).1
def nmQ (m:Mo) (q:Nat × Nat):ByteArray:=QO m (q.1:Int) (q.2:Int)
theorem Z5 {a b:ByteArray} (h:a.data.toList=b.data.toList):a=b:=ByteArray.ext (Array.ext' h)
theorem AS6 (m:Mo) : ∀ (L:List (Nat × Nat)) (s:ByteArray),prN m s false (L.map fun q=>(q.1:Int)) (L.map fun q=>(q.2:Int))=s ++ ⟨(Lib.joinTail [44] ((L.map (nmQ m)).map (·.data.toList))).toArray⟩:=by
 intro L
 induction L with
 | nil=>intro s; apply Z5; simp [prN,Lib.joinTail]
 | cons q r ih =>
   intro s
   show prN m ((if false=true then s else s ++ comma) ++ QO m q.1 q.2) false _ _=_
   rw [if_neg (by decide)]
   have:=ih (s ++ comma ++ QO m q.1 q.2)
   rw [this]
   apply Z5
   simp [Lib.joinTail,nmQ,comma]
theorem AS7 (m:Mo) (L:List (Nat × Nat)) (hL:L≠[]) (s:ByteArray):prN m s true (L.map fun q=>(q.1:Int)) (L.map fun q=>(q.2:Int))=s ++ UE (L.map (nmQ m)):=by
 cases L with
 | nil=>exact absurd rfl hL
 | cons q r =>
   show prN m ((if true=true then s else s ++ comma) ++ QO m q.1 q.2) false _ _=_
   rw [if_pos rfl]
   have:=AS6 m r (s ++ QO m q.1 q.2)
   rw [this]
   apply Z5
   unfold UE
   simp only [jE]
   rw [Lib.join_cons]
   simp [nmQ]
end Go.Proofs.YtfpagfhhhlljjaaGreatDoor.Ho
set_option linter.unusedSimpArgs false
set_option maxRecDepth 8000
namespace Go.Proofs.YtfpagfhhhlljjaaGreatDoor.Ho
open Sm Bins Cov Go.RowKit
open Bool renaming or_false→jR,not_false→jC,false_eq_true→jZ
open Int renaming toNat_natCast→qZ
open List renaming mem_map→zN,getElem?_eq_getElem→jO,map_cons→jE,length_cons→zX,length_map→jH,length_nil→qF,getElem_mem→jP,contains_cons→jS,contains_nil→jJ,map_nil→jD,append_nil→jF,take_of_length_le→jW,drop_zero→zM
open Nat renaming le_trans→qK,reduceBEq→jQ,reduceEqDiff→jB,reduceAdd→jM,add_zero→jK,zero_add→jG
open Option renaming getD_some→jA
theorem A22 : ∀ l:List ByteArray,LG (l.map ADE)=true:=fun l=>by
 unfold LG
 rw [List.all_eq_true]
 intro row hr
 obtain ⟨c,_,rfl⟩:=zN.1 hr; rfl
theorem A3M (h:Hp) (s:ByteArray):EZ Tryz.prog false h 65 1 [(0,.str s)]=some (.sl .full 1 [[.str s]],h):=by kernel_rfl
theorem ACD {m:Mo} {q:Nat × Nat} (h1:q.1 < m.pts.length) (h2:q.2 < m.pts[q.1].bins.length):nmQ m q=m.pts[q.1].bins[q.2].name:=by
 have hbe:F9 m (q.1:Int)=m.pts[q.1].bins:=by unfold F9; rw [qZ,jO h1]
 unfold nmQ QO
 rw [hbe,qZ,jO h2]
theorem AMG (xs:List ByteArray) (hN:xs.length≤4) (hl : ∀ x∈xs,x.size≤1099511627776):(UE xs).size≤4398046511107:=by
 show (UE xs).data.toList.length≤_
 unfold UE
 simp only
 cases xs with
 | nil=>simp [Lib.join_nil]
 | cons a t =>
   rw [jE,Lib.join_length]
   have hlens : ∀ l:List ByteArray,(∀ x∈l,x.size≤1099511627776)→Lib.lens (l.map (·.data.toList))≤l.length * 1099511627776:=by
    intro l
    induction l with
    | nil=>intro _; simp [Lib.lens]
    | cons y r ih =>
      intro hy
      have a1:=ih fun z hz=>hy z (List.mem_cons_of_mem _ hz)
      have a2:y.data.toList.length≤1099511627776:=hy y (by simp)
      simp only [Lib.lens,jE,List.sum_cons,zX] at a1 ⊢
      omega
   have a1:=hlens (a :: t) hl
   rw [jE] at a1
   rw [jH]
   simp only [zX,qF] at a1 hN ⊢
   omega
theorem AS5 {x:Hl} {L:List (Nat × Nat)} (hL:x.bins=L.map fun q=>(q.2:Int)) {j:Nat} (hj:j < L.length) : ∃ hb:j < x.bins.length,x.bins[j]=((L[j].2:Nat):Int):=by
 have hb:j < x.bins.length:=by rw [hL,jH]; exact hj
 refine ⟨hb,?_⟩
 have:x.bins[j]? = (L.map fun q=>((q.2:Nat):Int))[j]? := by rw [← hL]
 rw [jO hb,List.getElem?_map,jO hj] at this
 simpa using this
theorem AQQ (a:ByteArray):UE [a]=a:=by
 apply Z5
 unfold UE
 simp [Lib.join_one]
theorem AOG {m:Mo} (hm:MoOk m) {x:Hl} (hv:NU m x=true) : ∃ q0,(LU m x)[0]? = some q0∧∃ nm0:ByteArray,nm0.size≤1099511627776∧prH m x=nm0 ++ dot ++ UE ((LU m x).map (nmQ m))∧(x.cross=false→∃ h1:q0.1 < m.pts.length,nm0=m.pts[q0.1].name) ∧
  (x.cross=true→∃ i,∃ hi:i < m.crs.length,x.idx=(i:Int)∧nm0=m.crs[i].name):=by
 have hL:=ZA hv
 have hps:=hL.pts
 have hbn:=hL.bins
 have hl1:=hL.n1
 cases hc:x.cross
 ·obtain ⟨i,hi,k,hk,hz,hb,hkd,hg⟩:=RY hv hc
  have hp:UM m x = [(i:Int)]:=by unfold UM; rw [if_neg (by rw [hc]; decide),hz]
  rw [hp] at hps
  have hpr:prH m x=m.pts[i].name ++ dot ++ QO m (i:Int) (k:Int):=by
   unfold prH
   rw [if_pos hv,if_neg (by rw [hc]; decide),hz,XX hi]
   show m.pts[i].name ++ dot ++ QO m x.idx (x.bins.headD 0)=_
   rw [hz,hb]; rfl
  rw [hb] at hbn
  generalize LU m x=L at hps hbn
  match L,hps,hbn with
  | [q],hps,hbn =>
    simp at hps hbn
    obtain ⟨a,b⟩:=q
    simp at hps hbn
    obtain rfl:a=i:=by omega
    obtain rfl:b=k:=by omega
    exact ⟨_,rfl,m.pts[a].name,qK (hm.pts _ (jP hi)).name (by omega),by rw [hpr]; exact congrArg _ (AQQ _).symm,fun _=>⟨hi,rfl⟩,fun q=>by cases q⟩
 ·obtain ⟨i,hi,hz,hin,hh,hg⟩:=RZ hv hc
  have hp:UM m x=m.crs[i].pts:=by unfold UM; rw [if_pos hc,hz,PX hi]
  rw [hp] at hps
  have hpr:prH m x=prN m (m.crs[i].name ++ dot) true m.crs[i].pts x.bins:=by
   unfold prH
   rw [if_pos hv,if_pos hc,hz,PX hi]; rfl
  rw [hps,hbn] at hpr
  have hne:LU m x≠[]:=by intro q; rw [q] at hl1; simp at hl1
  rw [AS7 m _ hne] at hpr
  exact ⟨_,jO (show 0 < (LU m x).length by omega),m.crs[i].name,qK (hm.crs _ (jP hi)).name (by omega),hpr,fun q=>(by cases q),fun _=>⟨i,hi,hz,rfl⟩⟩
section
variable (G:Nat→AV)
set_option maxHeartbeats 4000000 in
theorem TP (hG:GOk G) (m:Mo) (hm:MoOk m) (x:Hl) (hn:x.bins.length≤1048576) (h:Hp):PCall (En G) 13 [.agg (D8 m),.agg (GG x)] h (.str (prH m x)):=by
 refine ACalls.pure (R:=fun v H=>v = .str (prH m x)∧Sm.ext h H) 3 ?_ (fun v H ⟨a,b⟩=>⟨b,by rw [a]; rfl⟩)
 refine NT (H:=hint [38] [(62,[61])]) (enM G) Tryz.func13 rfl (by kernel_rfl) (by kernel_rfl) (Nat.le_of_ble_eq_true (by kernel_rfl)) ?_
 show awp _ _ _ _ _ (EJ _ [.tmp 4] _)
 have t:=Hb.mk' h m x
 simp -implicitDefEqProofs only [DJ,jS,jJ,jQ,jR,BC,A8,BA,AY,BB,AL,BD,AX,AC,AA,AZ,AU,IA,A7,FD,BN,BU,BF,BP,↓reduceIte,jB,jA,jC,enP,jZ,GU,bxM,bxH]
 generalize h ++ [ABlk.live 2 [D8 m]] ++ [ABlk.live 3 [GG x]]=H at t ⊢
 generalize (h ++ [ABlk.live 2 [D8 m]]).length=hb at t ⊢
 simp -implicitDefEqProofs only [DJ,jS,jJ,jQ,jR,AY,AL,BD,AX,AC,AA,AZ,CB,BN,CG,BX,AB,jE,jD,jF,↓reduceIte,jB,jA,jC,enP,jZ,GU,ldM t.gm,ldH t.gh]
 refine (valid_prog G hG m hm x hn H).use ?_
 cases hv:NU m x
 ·simp -implicitDefEqProofs only [DJ,jS,jJ,jQ,jR,BC,A8,BK,BI,BA,CQ,CJ,DT,AY,BB,AL,BD,AX,AC,AA,AZ,AU,IA,A7,G7,AB,ES,↓reduceIte,jA,jC,jZ,GU]
  exact ⟨by unfold prH; rw [hv]; rfl,t.hx⟩
 have h0:=AF8 hv
 have hL:=ZA hv
 have hhp : ∀ H,∃ s,PCall (En G) 32 [.agg (D8 m),.agg (GG x)] H (.sl s 1 ((UM m x).map Bins.qencI)):=fun H=>AFB G m x hv H
 have hps:=hL.pts
 rw [hps] at hhp
 obtain ⟨s,hp⟩:=hhp H
 simp -implicitDefEqProofs only [DJ,jS,jJ,jQ,jR,BC,A8,BO,BI,BA,D5,AY,BB,AL,BD,AX,AC,AA,AZ,AU,CB,H9,A7,BN,G7,CG,BX,AB,ES,jE,jD,jF,↓reduceIte,jB,jA,Bool.not_true,jC,enP,jZ,GU,ldM t.gm,ldH t.gh]
 refine hp.use ?_
 have hln:=hL.n4
 have hl1:=hL.n1
 have hnames : ∀ q∈LU m x,∃ h1:q.1 < m.pts.length,∃ h2:q.2 < m.pts[q.1].bins.length,nmQ m q=m.pts[q.1].bins[q.2].name∧(nmQ m q).size≤1099511627776:=fun q hq=>by
  obtain ⟨h1,h2⟩:=hL.ok _ hq
  have hpo:=hm.pts _ (jP h1)
  exact ⟨h1,h2,ACD h1 h2,by rw [ACD h1 h2]; exact (hpo.bins _ (jP h2)).name⟩
 have hbn:=hL.bins
 -- what it is to say
 have hsay:=AOG hm hv
 generalize LU m x=L at hL hln hl1 hnames hbn hsay hps hhp
 simp -implicitDefEqProofs only [DJ,jS,jJ,jQ,jR,BQ,BA,AY,BB,AL,BD,AX,AC,AA,AZ,AU,BH,BG,DU,AB,↓reduceIte,jA,jC,enP,JG,jZ,GU,jH]
 refine H7 0 (fun F H' => ∃ v,F 2 = .ptr h.length 0 0∧F 3 = .ptr hb 0 0∧F 5=v∧Sm.ext H H'∧outG 1 ADE H (L.map (nmQ m)) v H') (fun _ _=>False) ?_ ?_ (fun _ _ q=>q.elim)
 ·refine DL (fun n F H' => ∃ j v,n+j=L.length∧F 2 = .ptr h.length 0 0∧F 3 = .ptr hb 0 0∧F 5=v∧F 15 = .sl s 1 ((L.map fun q=>((q.1:Nat):Int)).map Bins.qencI)∧F 16 = .int .i64 (L.length:Nat)∧F 17 = .int .i64 (j:Nat)∧Sm.ext H H'∧outG 1 ADE H ((L.take j).map (nmQ m)) v H') L.length
   ⟨0,.sl .nil 0 [],by simp,by simp -implicitDefEqProofs only [AA,↓reduceIte,jB],by simp -implicitDefEqProofs only [AA,↓reduceIte,jB],by simp -implicitDefEqProofs only [AA,↓reduceIte,jB],by simp -implicitDefEqProofs only [AA,↓reduceIte,jB],by simp -implicitDefEqProofs only [AA,↓reduceIte,jB],by simp -implicitDefEqProofs only [AA,↓reduceIte] <;> rfl,ext.rfl' _,by rw [List.take_zero]; exact outG.nil _ _ _ _⟩ ?_
  rintro n F H' ⟨j,v,hj,f2,f3,f5,f15,f16,f17,hx,ho⟩
  simp -implicitDefEqProofs only [DJ,jS,jJ,jQ,jR,BC,A8,BI,BA,AY,BB,AL,BD,AX,AC,AA,AZ,BR,AB,CW,↓reduceIte,jA,jC,enP,jZ,GU,f16,f17]
  refine CU (fun hc => ?_) (fun hc => ?_)
  ·have hj':j < L.length:=by simpa using hc
   have gm:=FO hx t.gm
   have gh:=FO hx t.gh
   obtain ⟨hb2,hbj⟩:=AS5 hbn hj'
   have hj2:j < (L.map fun q=>((q.1:Nat):Int)).length:=by rw [jH]; exact hj'
   have hg:(L.map fun q=>((q.1:Nat):Int))[j]=((L[j].1:Nat):Int):=by simp
   obtain ⟨q1,q2,hnm,hns⟩:=hnames _ (jP hj')
   have hlen:((L.take j).map (nmQ m)).length < 8388608:=by rw [jH,List.length_take]; omega
   obtain ⟨v',H2,ha,ho2,_,he2,_,_⟩:=ho.append (P:=Tryz.prog) AWG sz9 AV5 AYO (by omega) hlen hx (nmQ m L[j])
   have ha':GI Tryz.prog true H' 65 65 v (.sl .full 1 [[.str (nmQ m L[j])]])=some (v',H2):=ha
   rw [hnm] at ha'
   have hst:(L.take (j+1)).map (nmQ m)=(L.take j).map (nmQ m) ++ [nmQ m L[j]]:=by
    rw [List.take_succ_eq_append_getElem hj',List.map_append]; rfl
   simp -implicitDefEqProofs only [DJ,jS,jJ,jQ,jR,BC,BQ,A8,BO,BA,AY,BB,AL,BD,AX,AC,AA,AZ,BG,A7,BN,BZ,AB,↓reduceIte,jB,jA,jC,enP,JB,jZ,GU,f15,f17,DF hj2,CX ag3 hj2,Cov.encI0,hg]
   refine EX (by kernel_rfl) ?_
   simp -implicitDefEqProofs only [F6,FU,FQ,DJ,jS,jJ,jQ,jR,EF,DZ,FC,EH,FI,IK,JL,FB,D9,EC,I8,A8,BA,EI,EP,AY,BB,AL,BD,AX,AC,AA,AZ,AU,BH,BG,EK,BN,BR,BJ,BZ,G8,BU,AB,DK,↓reduceIte,jB,jM,jK,jG,jA,jC,enP,OY,GR,JB,J6,RJ,IQ,TW,jZ,GU,f2,f3,f5,f17,OJ gm,DF q1,CX TA q1,NQ,TT gh,DF hb2,CX ag3 hb2,Cov.encI0,hbj,DF q2,CX ag9 q2,YQ,A3M,ha',wrap_succ (show j < 9223372036854775807 by omega)]
   refine ⟨n - 1,by omega,j+1,v',by omega,by first | exact True.intro | exact f2,by first | exact True.intro | exact f3,by first | exact True.intro | exact rfl,by first | exact True.intro | exact f15,by first | exact True.intro | exact f16,by first | exact True.intro | exact rfl,he2,by rw [hst]; exact ho2⟩
  ·have hj' : ¬ j < L.length:=by simpa using hc
   rw [jW (by omega)] at ho
   simp -implicitDefEqProofs only [DI,ED,KQ,EW,AA,↓reduceIte,jB]
   exact ⟨v,by first | exact True.intro | exact f2,by first | exact True.intro | exact f3,by first | exact True.intro | exact f5,hx,ho⟩
 rintro F H' ⟨v,f2,f3,f5,hx,ho⟩
 obtain ⟨q0,hq0,nm0,hns0,hsay,hs1,hs2⟩:=hsay
 obtain ⟨h0L,hq0'⟩:=List.getElem?_eq_some_iff.1 hq0
 have hj2:0 < (L.map fun q=>((q.1:Nat):Int)).length:=by rw [jH]; exact h0L
 have hg0:(L.map fun q=>((q.1:Nat):Int))[0]=((q0.1:Nat):Int):=by simp [hq0']
 have hne:L.map (nmQ m)≠[]:=by intro q; have:=congrArg List.length q; rw [jH,qF] at this; omega
 have hsz : ∀ y∈L.map (nmQ m),y.size≤1099511627776:=fun y hy=>by
  obtain ⟨q,hq,rfl⟩:=zN.1 hy
  obtain ⟨_,_,_,h4⟩:=hnames q hq
  exact h4
 have hln4:(L.map (nmQ m)).length≤4:=by rw [jH]; exact hln
 have hjs:=AMG _ hln4 hsz
 obtain ⟨q1,_,_,_⟩:=hnames q0 (by rw [← hq0']; exact jP h0L)
 have gm:=FO hx t.gm
 have gh:=FO hx t.gh
 have l0:=AGQ gh
 have a1:=QT (a:=nm0) (b:=dot) (by rw [SV]; omega)
 have a2:=QT (a:=nm0 ++ dot) (b:=UE (L.map (nmQ m))) (by rw [ByteArray.size_append,SV]; omega)
 obtain ⟨s',hp2⟩:=hhp H'
 have hix0:JX 1 H' (.sl s' 1 ((L.map fun q=>((q.1:Nat):Int)).map Bins.qencI)) (.int .i64 0)=some (.fptr 1 ((L.map fun q=>((q.1:Nat):Int)).map Bins.qencI) 0 0):=DF hj2
 have hld0:D6 Tryz.prog H' 3 (.fptr 1 ((L.map fun q=>((q.1:Nat):Int)).map Bins.qencI) 0 0)=some (.int .i64 (q0.1:Nat)):=(CX ag3 hj2).trans (by rw [hg0]; rfl)
 generalize hN:L.map (nmQ m)=NS at ho hne hsz hln4 hjs a2 hsay
 obtain ⟨o,rfl,ho1,hob⟩ : ∃ o,v = .own o 0 NS.length∧H.length≤o∧H'[o]? = some (.live 1 (NS.map ADE)):=by
  rcases ho with ⟨e1,_⟩ | ⟨_,o,h1,h2,h3⟩
  ·exact absurd e1 hne
  ·exact ⟨o,h2,h1,h3⟩
 have hz:=AJV (i:=61) (off:=0) (len:=NS.length) hob (by simp) (by rw [zM,jW (by simp)]; exact A22 NS)
 rw [zM,jW (by simp)] at hz
 have hx2:=t.hx.trans (hx.set ho1 .dead)
 have hjp:=fun H=>AQP G NS .any hne hln4 hsz H
 simp -implicitDefEqProofs only [BC,BA,EU,↓reduceIte]
 refine EX (by kernel_rfl) ?_
 simp -implicitDefEqProofs only [F6,DJ,jS,jJ,jQ,jR,EF,DZ,EH,FB,D9,EC,GZ,F7,AA,AZ,AU,CB,BH,BN,BJ,BZ,AB,jE,jD,jF,↓reduceIte,jB,jM,jK,jA,enP,GR,JB,f2,f3,ldM gm,OJ gm,ldH gh]
 refine ⟨_,hp2,?_⟩
 simp -implicitDefEqProofs only [F6,DJ,jS,jJ,jQ,jR,EF,DZ,FC,EH,IK,FB,D9,EC,BC,A8,BA,AY,AL,BD,AX,AA,AZ,BN,BJ,BZ,AB,↓reduceIte,jB,jM,jK,jA,jC,enP,OY,XC,jZ,GU,hix0,hld0,DF q1,CX ag9 q1,ADF,l0]
 cases hcr:x.cross
 ·obtain ⟨_,e⟩:=hs1 hcr
  rw [e] at a1 a2
  simp -implicitDefEqProofs only [DJ,jS,jJ,jQ,jR,BC,A8,BO,BI,BA,D5,AY,BB,AL,BD,AX,AC,AA,AZ,AU,CB,IA,BG,BN,BR,CG,BX,AB,jE,jD,jF,↓reduceIte,jB,jK,jA,jC,enP,RU,jZ,GU,f3,l0,hcr,f5,a1,ACU,AL,hz]
  refine (hjp _).use ?_
  simp -implicitDefEqProofs only [DJ,jS,jJ,jQ,jR,BK,BA,CJ,AY,BB,AL,BD,AX,AC,AA,AZ,A7,BR,AB,↓reduceIte,jB,jA,jC,enP,jZ,GU,a1,a2]
  exact ⟨by rw [hsay,e],hx2⟩
 ·obtain ⟨i,hi,hz2,e⟩:=hs2 hcr
  have l1:=YB gh
  rw [hz2] at l1
  rw [e] at a1 a2
  simp -implicitDefEqProofs only [DJ,jS,jJ,jQ,jR,BC,A8,BI,BA,DT,AY,BB,AL,BD,AX,AC,AA,AZ,AU,CB,IA,BG,A7,BN,BR,BJ,BZ,CG,BX,AB,jE,jD,jF,↓reduceIte,jB,jK,jG,jA,jC,enP,PE,IW,RU,KG,XB,jZ,GU,f2,f3,l0,hcr,l1,RI gm,DF hi,CX ag9 hi,ADH,f5,a1,ACU,AL,hz]
  refine (hjp _).use ?_
  simp -implicitDefEqProofs only [DJ,jS,jJ,jQ,jR,BK,BA,CJ,AY,BB,AL,BD,AX,AC,AA,AZ,A7,BR,AB,↓reduceIte,jB,jA,jC,enP,jZ,GU,a1,a2]
  exact ⟨by rw [hsay,e],hx2⟩
end
end Go.Proofs.YtfpagfhhhlljjaaGreatDoor.Ho
set_option linter.unusedSimpArgs false
set_option maxRecDepth 8000
namespace Go.Proofs.YtfpagfhhhlljjaaGreatDoor.Ho
open Sm Bins Cov Xe Go.RowKit
open Bool renaming not_false→jC
open List renaming map_nil→jD,append_nil→jF,mem_cons→qI,map_cons→jE,getElem?_cons_zero→zL,getElem?_cons_succ→zQ
open Nat renaming le_refl→jL,le_of_ble_eq_true→jI,reduceEqDiff→jB,reduceAdd→jM,zero_add→jG
open Option renaming getD_some→jA,getD_none→jT
abbrev QX:ByteArray:=⟨#[107,105,110,100]⟩
def kE:Ex := .mk 2 0 QX .nil []
def A5E:Bin:=mkB ⟨#[108,111,119]⟩ 0 0 3
def A5F:Bin:=mkB ⟨#[98,97,100]⟩ 2 2 2
def kP:Pt:=⟨⟨#[112]⟩,kE,.full,[A5E,A5F]⟩
def kM:Mo:=⟨.full,[kP],.nil,[]⟩
def kH:Hl:=⟨false,0,.full,[0]⟩
def wE:List AV := [.int .i64 2,.int .i64 0,.str QX,.sl .nil 0 []]
def wL:List AV:=rowB ⟨#[108,111,119]⟩ 0 0 3
def wB:List AV:=rowB ⟨#[98,97,100]⟩ 2 2 2
def wP:List AV := .str ⟨#[112]⟩ :: (wE ++ [.sl .full 4 [wL,wB]])
def wM:List AV := [.sl .full 6 [wP],.sl .nil 0 []]
theorem wcB (s:ByteArray) (k lo hi:Int):CvRow (rowB s k lo hi) (GN (mkB s k lo hi)):=CvRow.cons rfl (Cv.refl _) (CvRow.cons rfl (Cv.refl _) (CvRow.cons rfl (Cv.refl _) (CvRow.cons rfl (Cv.nil 0 1) CvRow.nil)))
theorem wcP (s:ByteArray) {xs ys:List (List AV)} (h:Cv (.sl .full 4 xs) (.sl .full 4 ys)):CvRow (.str s :: (wE ++ [.sl .full 4 xs])) (.str s :: (DC kE ++ [.sl .full 4 ys])) :=
 CvRow.cons rfl (Cv.refl _) (CvRow.cons rfl (Cv.refl _) (CvRow.cons rfl (Cv.refl _) (CvRow.cons rfl (Cv.refl _) (CvRow.cons rfl (Cv.nil 0 4) (CvRow.cons rfl h CvRow.nil)))))
theorem wc2 {m:SM} {k:Nat} {a b a' b':List AV} (h1:CvRow a a') (h2:CvRow b b'):Cv (.sl m k [a,b]) (.sl m k [a',b']):=Cv.rows rfl fun i r r' e1 e2=>by
 match i,e1,e2 with
 | 0,e1,e2=>cases e1; cases e2; exact h1
 | 1,e1,e2=>cases e1; cases e2; exact h2
 | _+2,e1,_=>cases e1
theorem wc1 {m:SM} {k:Nat} {a a':List AV} (h1:CvRow a a'):Cv (.sl m k [a]) (.sl m k [a']):=Cv.rows rfl fun i r r' e1 e2=>by
 match i,e1,e2 with
 | 0,e1,e2=>cases e1; cases e2; exact h1
 | _+1,e1,_=>cases e1
theorem A1R:CvR (.agg wM) (.agg (D8 kM)) :=
 CvR.agg (CvRL.cons (CvR.sl (wc1 (wcP _ (wc2 (wcB _ _ _ _) (wcB _ _ _ _))))) (CvRL.cons (CvR.sl (Cv.nil 0 3)) CvRL.nil))
theorem A4B (h:Hp):J8 Tryz.prog h 48=some (.ptr h.length 0 0,h ++ [.live 4 [[.int .i64 0,.int .i64 0,.str ⟨#[]⟩,.sl .nil 0 []]]]):=JW (row := [.int .i64 0,.int .i64 0,.str ⟨#[]⟩,.sl .nil 0 []]) (by kernel_rfl)
theorem A11 (h:Hp) (row:List AV) (hr:row.length=4):FM Tryz.prog (h ++ [.live 4 [row]]) 48 (.ptr h.length 0 0) (.agg [.int .i64 2,.int .i64 0,.str QX,.sl .nil 0 []])=some (h ++ [.live 4 [wE]]):=by
 have h1:=NI (P:=Tryz.prog) (t:=48) (h:=h) (k:=4) (j:=0) (row:=row) (cs:=wE) (v := .agg wE) rfl MQ (by rw [hr]; exact jL 4)
 have h2:splice row 0 wE=wE:=by unfold splice; simp [hr,wE]
 rw [h2] at h1
 exact h1
theorem A3X (s:ByteArray) (xs:List (List AV)):KR Tryz.prog 56 [(0,.str s),(2,.sl .full 2 xs)]=some (.agg [.str s,.int .i64 0,.sl .full 2 xs,.sl .nil 0 []]):=by kernel_rfl
theorem A3O (h:Hp):EZ Tryz.prog false h 49 2 [(0,.agg wL),(1,.agg wB)]=some (.sl .full 4 [wL,wB],h):=by kernel_rfl
theorem A3Y (s:ByteArray) (xs:List (List AV)):KR Tryz.prog 51 [(0,.str s),(1,.agg wE),(2,.sl .full 4 xs)]=some (.agg (.str s :: (wE ++ [.sl .full 4 xs]))):=by kernel_rfl
theorem A3U (h:Hp):EZ Tryz.prog false h 22 1 [(0,.agg wP)]=some (.sl .full 6 [wP],h):=by kernel_rfl
theorem A34:KR Tryz.prog 25 [(0,.sl .full 6 [wP])]=some (.agg wM):=by kernel_rfl
theorem AZG {H:Hp} {b:Nat} {row:List AV} (hb:H[b]? = some (.live 4 [row])) (hr:row.length=4):D6 Tryz.prog H 56 (.ptr b 0 0)=some (.agg row):=by
 rw [IE AD3 XR hb rfl (by rw [hr]; exact jL 4),List.drop_zero,List.take_of_length_le (by omega)]
structure Bk (h H:Hp) (b1 b2:Nat):Prop where
 g0:H[h.length]? = some (.live 2 [[.sl .nil 0 [],.sl .nil 0 []]])
 g1:H[b1]? = some (.live 4 [wL])
 g2:H[b2]? = some (.live 4 [wB])
 hx:Sm.ext h H
theorem Bk.mk' (h:Hp):Bk h (h ++ [ABlk.live 2 [[.sl .nil 0 [],.sl .nil 0 []]]] ++ [ABlk.live 4 [wL]] ++ [ABlk.live 4 [wB]]) (h ++ [ABlk.live 2 [[.sl .nil 0 [],.sl .nil 0 []]]]).length (h ++ [ABlk.live 2 [[.sl .nil 0 [],.sl .nil 0 []]]] ++ [ABlk.live 4 [wL]]).length :=
 ⟨CV (CV (CY _ _)),CV (CY _ _),CY _ _,(((ext.rfl' h).app _).app _).app _⟩
section
variable (G:Nat→AV)
theorem A0Q (h:Hp):PCall (En G) 49 [] h (.agg wE):=by
 refine ACalls.pure 3 (R:=fun v H=>v = .agg wE∧Sm.ext h H) ?_ (fun v h' ⟨e,x⟩=>⟨x,by subst e; rfl⟩)
 refine acN Tryz.func49 rfl ?_
 show awp _ _ _ _ _ (EJ _ [.cell 0 48] _)
 simp -implicitDefEqProofs only [FU,FQ,BC,A8,BK,BA,AY,BB,AO,AQ,AL,BD,AX,AC,E8,AA,AZ,AU,BH,IA,FV,KU,EN,BU,AB,DW,↓reduceIte,jB,jA,jC,enP,jT,A4B,A5Y,A11 _ [.int .i64 0,.int .i64 0,.str ⟨#[]⟩,.sl .nil 0 []] rfl]
 refine ⟨trivial,.agg wE,?_,rfl,?_⟩
 ·exact SE (P:=Tryz.prog) (h:=h) (k:=4) (row:=wE) XH MQ (jL 4)
 ·exact (ext.rfl' h).app _
set_option maxHeartbeats 2000000 in
theorem ABH (h:Hp):PCall (En G) 26 [] h (.agg (D8 kM)):=by
 refine PCall.res (r := .agg wM) ?_ A1R
 refine ACalls.pure 3 (R:=fun v H=>v = .agg wM∧Sm.ext h H) ?_ (fun v h' ⟨e,x⟩=>⟨x,by subst e; rfl⟩)
 refine acN Tryz.func26 rfl ?_
 show awp _ _ _ _ _ (EJ _ [.cell 0 25] _)
 have E:=Bk.mk' h
 have r1:rowB ⟨#[108,111,119]⟩ 0 0 3=wL:=rfl
 have r2:rowB ⟨#[98,97,100]⟩ 2 2 2=wB:=rfl
 simp -implicitDefEqProofs only [FU,FQ,BC,A8,BA,AY,BB,AO,AQ,AL,BD,AX,AC,E8,AA,AZ,AU,BH,IA,FV,KU,EK,EN,BU,AB,DW,↓reduceIte,jB,jA,jC,enP,jT,A52,A38,A3K,A5X,A3X,AVO,A10 _ _ _ _ _ [.str ⟨#[]⟩,.int .i64 0,.sl .nil 0 [],.sl .nil 0 []] rfl,r1,r2]
 generalize h ++ [ABlk.live 2 [[.sl .nil 0 [],.sl .nil 0 []]]] ++ [ABlk.live 4 [wL]] ++ [ABlk.live 4 [wB]]=H at E ⊢
 generalize (h ++ [ABlk.live 2 [[.sl .nil 0 [],.sl .nil 0 []]]] ++ [ABlk.live 4 [wL]]).length=b2 at E ⊢
 generalize (h ++ [ABlk.live 2 [[.sl .nil 0 [],.sl .nil 0 []]]]).length=b1 at E ⊢
 have hst:FM Tryz.prog H 25 (.ptr h.length 0 0) (.agg wM)=some (H.set h.length (.live 2 [wM])):=by
  rw [NJ (v := .agg wM) (cs:=wM) (row := [.sl .nil 0 [],.sl .nil 0 []]) rfl AZ7 E.g0 (jL 2)]; rfl
 have p1:AV.str ⟨#[112]⟩ :: (wE ++ [.sl .full 4 [wL,wB]])=wP:=rfl
 refine EX (by kernel_rfl) ?_
 simp -implicitDefEqProofs only [F6,EF,DZ,EH,FB,GZ,F7,AO,AA,AZ,CB,BN,jD,jF,↓reduceIte,jB,jM,jA,enP]
 refine ⟨_,A0Q G H,?_⟩
 simp -implicitDefEqProofs only [F6,FU,FQ,EF,DZ,OG,FC,EH,ABC,JL,FB,NE,BK,BA,AO,AA,AZ,AU,IA,KU,EK,BN,EN,BU,AB,DW,↓reduceIte,jB,jM,jG,jA,enP,jT,AZG E.g1 rfl,AZG E.g2 rfl,A3O,A3Y,p1,A3U,A34,hst]
 rw [ADC (b:=h.length) (by simp -implicitDefEqProofs only [AA,↓reduceIte,jB]) (x := .agg wM) (by rw [IE A4K AZ7 (ER E.g0) rfl (jL 2)]; rfl)]
 exact ⟨rfl,E.hx.set (jL _) _⟩
end
theorem k_e:cnE JU kM kH=0:=by decide +kernel
theorem A5C:prH kM kH=⟨#[112,46,108,111,119]⟩:=by decide +kernel
theorem A2V:(cnL JU kM kH).map (·.map Ex.op) = [[23,4]]:=by decide +kernel
theorem A2T:htV kM kH (WP kM [[(QX,3)]]) (UJ kM [[(QX,3)]])=(true,0):=by decide +kernel
theorem A5D:htV kM kH (WP kM [[(QX,2)]]) (UJ kM [[(QX,2)]])=(false,0):=by decide +kernel
theorem ATX:MoOk kM:=⟨by decide,by decide,fun p hp=>by
 simp only [kM,qI,List.not_mem_nil,or_false] at hp
 subst hp
 exact ⟨by decide +kernel,by decide,by decide,fun b hb=>by
  simp only [kP,qI,List.not_mem_nil,or_false] at hb
  rcases hb with rfl | rfl <;> exact ⟨by decide,by decide,by decide,by decide⟩⟩,fun c hc=>by cases hc⟩
theorem A2U : ∃ a b:Ex,cnL JU kM kH = [[a,b]]∧a.op=23∧b.op=4:=by
 have h:=A2V
 generalize cnL JU kM kH=c at h
 rcases c with _ | ⟨r,_ | ⟨r2,t⟩⟩
 ·cases h
 ·rcases r with _ | ⟨a,_ | ⟨b,_ | ⟨c,t⟩⟩⟩
  ·cases h
  ·simp at h
  ·simp at h
   exact ⟨a,b,rfl,h.1,h.2⟩
  ·simp at h
 ·simp at h
theorem A4C (h:Hp):J8 Tryz.prog h 28=some (.ptr h.length 0 0,h ++ [.live 3 [[.bool false,.int .i64 0,.sl .nil 0 []]]]):=JW (row := [.bool false,.int .i64 0,.sl .nil 0 []]) (by kernel_rfl)
theorem A12 (h:Hp) (row:List AV) (hr:row.length=3):FM Tryz.prog (h ++ [.live 3 [row]]) 28 (.ptr h.length 0 0) (.agg [.bool false,.int .i64 0,.sl .full 1 [[.int .i64 0]]])=some (h ++ [.live 3 [GG kH]]):=by
 have h1:=NI (P:=Tryz.prog) (t:=28) (h:=h) (k:=3) (j:=0) (row:=row) (cs:=GG kH) (v := .agg (GG kH)) rfl AZ6 (by rw [hr]; exact jL 3)
 have h2:splice row 0 (GG kH)=GG kH:=by unfold splice; simp [hr,GG]
 rw [h2] at h1
 exact h1
theorem A3T (h:Hp) (a:Int):EZ Tryz.prog false h 26 1 [(0,.int .i64 a)]=some (.sl .full 1 [[.int .i64 a]],h):=by kernel_rfl
theorem AZS (s:ByteArray) (a:Int):KR Tryz.prog 59 [(0,.str s),(1,.int .i64 a)]=some (.agg [.str s,.int .i64 a]):=by kernel_rfl
theorem AZO (h:Hp) (s:ByteArray) (a:Int):EZ Tryz.prog false h 60 1 [(0,.agg [.str s,.int .i64 a])]=some (.sl .full 2 [[.str s,.int .i64 a]],h):=by kernel_rfl
theorem AZR (h:Hp) (xs:List (List AV)):EZ Tryz.prog false h 38 1 [(0,.sl .full 2 xs)]=some (.sl .full 1 [[.sl .full 2 xs]],h):=by kernel_rfl
def kSs (n:Int):Ss:=⟨.full,[(QX,n)]⟩
section
variable (G:Nat→AV)
theorem A2S (hG:GOk G) (hT:RG G) (n:Int) (hn:A4R (QX,n)) (h:Hp):PCall (En G) 19 [.agg (D8 kM),.agg (GG kH),.sl .full 1 [[.sl .full 2 [[.str QX,.int .i64 n]]]]] h (.tup [.bool (htV kM kH (WP kM [[(QX,n)]]) (UJ kM [[(QX,n)]])).1,.int .i64 (htV kM kH (WP kM [[(QX,n)]]) (UJ kM [[(QX,n)]])).2]) :=
 hit_prog G hG hT kM ATX kH (by decide) [kSs n] .full h (by simp) (fun x hx=>by
  rw [List.mem_singleton.1 hx]
  exact ⟨by simp [kSs],fun s hs=>by rw [List.mem_singleton.1 hs]; exact hn⟩)
set_option maxHeartbeats 2000000 in
theorem O6 (hG:GOk G) (hT:RG G) (h:Hp):PCall (En G) 10 [] h (.bool true):=by
 refine ACalls.pure0 rfl ?_
 refine acN Tryz.func10 rfl ?_
 show awp _ _ _ _ _ (EJ _ [.tmp 0] _)
 simp -implicitDefEqProofs only [FU,FQ,BC,A8,BA,AY,BB,AO,AQ,AL,BD,AX,AC,E8,AA,AZ,AU,BH,BM,A7,FV,KU,EK,EN,BU,AB,DW,↓reduceIte,jB,jA,jC,enP,jT,A3T,A3W,A4C,A12 _ [.bool false,.int .i64 0,.sl .nil 0 []] rfl]
 have g:=CY h (ABlk.live 3 [GG kH])
 have hx:=(ext.rfl' h).app [ABlk.live 3 [GG kH]]
 generalize h ++ [ABlk.live 3 [GG kH]]=H at g hx ⊢
 have hv:NU kM kH=true:=by decide +kernel
 have hC:=AEB G hG kM ATX kH (by decide) H
 obtain ⟨a,b,hab,ha,hb⟩:=A2U
 have hcv:cnV JU kM kH = .tup [.sl .any 1 [UN [a,b]],.int .i64 0]:=by
  unfold cnV
  rw [k_e,hab]; rfl
 rw [hcv] at hC
 have h3:=A2S G hG hT 3 (by constructor <;> decide) H
 rw [A2T] at h3
 have h2:=A2S G hG hT 2 (by constructor <;> decide) H
 rw [A5D] at h2
 have hP:=TP G hG kM ATX kH (by decide) H
 rw [A5C] at hP
 refine EX (by kernel_rfl) ?_
 simp -implicitDefEqProofs only [F6,EF,DZ,EH,FB,GZ,F7,AO,AA,AZ,CB,BN,jD,jF,↓reduceIte,jB,jM,jA,enP]
 refine ⟨_,ABH G H,?_⟩
 simp -implicitDefEqProofs only [F6,EF,DZ,EH,FI,LX,GZ,F7,AO,AA,AZ,CB,FY,AB,jE,jD,jF,↓reduceIte,jB,jM,jA,ldH g]
 refine ⟨_,hC,?_⟩
 simp -implicitDefEqProofs only [F6,zL,zQ,EF,DZ,FC,EH,IK,LX,BC,BA,AO,AA,AZ,FY,IP,AB,↓reduceIte,jB,jM,jA]
 refine EX (by kernel_rfl) ?_
 simp -implicitDefEqProofs only [F6,EF,DZ,EH,FB,GZ,F7,AO,AA,AZ,CB,BN,jD,jF,↓reduceIte,jB,jM,jA,enP]
 refine ⟨_,ABH G H,?_⟩
 simp -implicitDefEqProofs only [F6,FU,FQ,EF,DZ,EH,FI,ABC,JL,LX,GZ,F7,AO,AA,AZ,AU,CB,BH,IA,KU,EK,FY,BU,AB,jE,jD,jF,↓reduceIte,jB,jM,jA,enP,ldH g,AZS,AZO,AZR]
 refine ⟨_,h3,?_⟩
 simp -implicitDefEqProofs only [F6,zL,zQ,EF,DZ,FC,EH,IK,LX,BC,BA,AO,AA,AZ,FY,IP,AB,↓reduceIte,jB,jM,jA]
 refine EX (by kernel_rfl) ?_
 simp -implicitDefEqProofs only [F6,EF,DZ,EH,FB,GZ,F7,AO,AA,AZ,CB,BN,jD,jF,↓reduceIte,jB,jM,jA,enP]
 refine ⟨_,ABH G H,?_⟩
 simp -implicitDefEqProofs only [F6,FU,FQ,EF,DZ,EH,FI,ABC,JL,LX,GZ,F7,AO,AA,AZ,AU,CB,BH,IA,KU,EK,FY,BU,AB,jE,jD,jF,↓reduceIte,jB,jM,jA,enP,ldH g,AZS,AZO,AZR]
 refine ⟨_,h2,?_⟩
 simp -implicitDefEqProofs only [F6,zL,zQ,EF,DZ,FC,EH,IK,LX,BC,BA,AO,AA,AZ,FY,IP,AB,↓reduceIte,jB,jM,jA]
 refine EX (by kernel_rfl) ?_
 have i0:JX 1 H (.sl .any 1 [UN [a,b]]) (.int .i64 0)=some (.fptr 1 [UN [a,b]] 0 0):=rfl
 have d0:D6 Tryz.prog H 46 (.fptr 1 [UN [a,b]] 0 0)=some (.sl .any 4 [DC a,DC b]):=X7 (row:=UN [a,b]) UQ rfl rfl
 have j0:JX 4 H (.sl .any 4 [DC a,DC b]) (.int .i64 0)=some (.fptr 4 [DC a,DC b] 0 0):=rfl
 have j1:JX 4 H (.sl .any 4 [DC a,DC b]) (.int .i64 1)=some (.fptr 4 [DC a,DC b] 1 0):=rfl
 have m0:D6 Tryz.prog H 3 (.fptr 4 [DC a,DC b] 0 0)=some (.int .i64 23):=X7 (row:=DC a) ag3 rfl (by rw [IU,ha]; rfl)
 have m1:D6 Tryz.prog H 3 (.fptr 4 [DC a,DC b] 1 0)=some (.int .i64 4):=X7 (row:=DC b) ag3 rfl (by rw [IU,hb]; rfl)
 have c2:(((2:Nat):Int) == 2)=true:=rfl
 have c1:(((1:Nat):Int) == 1)=true:=rfl
 simp -implicitDefEqProofs only [F6,EF,DZ,EH,FH,GK,PQ,FI,I7,FB,IB,API,D9,EC,I8,GZ,F7,CO,AO,AA,AZ,AU,CB,BH,BM,CP,DY,BN,BR,G7,BJ,BZ,DU,AB,EG,ES,jD,jF,↓reduceIte,jB,jM,Nat.add_zero,jG,jA,jC,enP,AQS,AMC,ZI,VU,JJ,beq_self_eq_true,List.length_cons,List.length_nil,c1,c2,i0,d0,j0,j1,m0,m1]
 refine ⟨_,ABH G H,?_⟩
 simp -implicitDefEqProofs only [F6,EF,DZ,FH,GK,PQ,IB,GZ,F7,CO,AO,AA,AZ,AU,CB,IA,BR,AB,jE,jD,jF,↓reduceIte,jB,jM,jA,enP,ldH g]
 refine ⟨_,hP,?_⟩
 simp -implicitDefEqProofs only [F6,EF,DZ,FC,EH,IK,I7,BK,BA,CJ,AO,AA,AZ,AU,BM,CP,DY,AB,J7,↓reduceIte,jB,jM,jG,jA]
 exact ⟨by rw [beq_self_eq_true],hx⟩
end
section
variable (G:Nat→AV)
set_option maxHeartbeats 1000000 in
theorem A0P (hG:GOk G) (hT:RG G) (m:Mo) (hm:MoOk m) (x:Hl) (hn:x.bins.length≤1048576) (h:Hp):PCall (En G) 3 [.agg (D8 m),.agg (GG x)] h (.bool true):=by
 refine ACalls.pure0 rfl ?_
 refine acN Tryz.func3 rfl ?_
 show awp _ _ _ _ _ (EJ _ [.tmp 4] _)
 have t:=Hb.mk' h m x
 simp -implicitDefEqProofs only [BC,A8,BA,AY,BB,AO,AQ,AL,BD,AX,AC,AA,AZ,AU,BM,A7,FD,BN,BU,BF,BP,↓reduceIte,jB,jA,jC,enP,bxM,bxH]
 generalize h ++ [ABlk.live 2 [D8 m]] ++ [ABlk.live 3 [GG x]]=H at t ⊢
 generalize (h ++ [ABlk.live 2 [D8 m]]).length=hb at t ⊢
 simp -implicitDefEqProofs only [AY,AO,AQ,AL,BD,AX,AC,AA,AZ,CB,CG,BX,AB,jE,jD,jF,↓reduceIte,jA,jC,ldM t.gm]
 refine (AC6 G m hm H).use ?_
 intro b
 cases b
 ·simp -implicitDefEqProofs only [BC,A8,BI,BA,DT,AY,BB,BL,BV,CO,FP,AO,AQ,AL,BD,AX,AC,AA,EQ,AZ,AU,CB,BM,BG,CP,DY,G7,CG,BX,AB,ES,jD,jF,↓reduceIte,jB,jA,jC]
  refine (O6 G hG hT H).use ?_
  simp -implicitDefEqProofs only [BK,BA,CQ,CJ,AY,BB,AO,AQ,AL,BD,AX,AC,AA,AZ,A7,↓reduceIte,jA,jC]
  exact ⟨by trivial,t.hx⟩
 simp -implicitDefEqProofs only [BI,BA,AY,BB,BL,BV,CO,EM,AO,AQ,AL,BD,AX,AC,AA,AZ,AU,BH,BM,BG,CP,DR,BN,BR,G7,BJ,DU,AB,EY,ES,↓reduceIte,jB,jG,jA,Bool.not_true,jC,enP,JG,J6,TT t.gh,List.length_map]
 rcases Bool.eq_false_or_eq_true (decide (((x.bins.length:Nat):Int) > 10)) with h1 | h1
 ·simp -implicitDefEqProofs only [BC,A8,DT,AY,AO,AQ,AL,BD,AX,CB,CG,BX,jD,jF,jA,jC,h1]
  refine (O6 G hG hT H).use ?_
  simp -implicitDefEqProofs only [BK,BA,CQ,CJ,AY,BB,AO,AQ,AL,BD,AX,AC,AA,AZ,A7,↓reduceIte,jA,jC]
  exact ⟨by trivial,t.hx⟩
 simp -implicitDefEqProofs only [BC,BO,BA,D5,h1]
 refine EX (by kernel_rfl) ?_
 try simp -implicitDefEqProofs only [F6,EF,DZ,EH,FB,IB,GZ,F7,AO,AA,AZ,CB,BN,BR,AB,jE,jD,jF,↓reduceIte,jB,jM,jA,enP,ldM t.gm,ldH t.gh]
 refine ⟨_,valid_prog G hG m hm x hn H,?_⟩
 try simp -implicitDefEqProofs only [ldM t.gm,ldH t.gh]
 refine ⟨_,valid_ref G m hm x hn H,?_⟩
 simp -implicitDefEqProofs only [F6,EF,DZ,EH,FH,GK,PQ,FI,FB,IB,GZ,F7,CO,AO,AA,AZ,CB,BN,BR,AB,jE,jD,jF,↓reduceIte,jB,jM,jA,enP,be4,beq_self_eq_true,ldM t.gm,ldH t.gh]
 refine ⟨_,TP G hG m hm x hn H,?_⟩
 try simp -implicitDefEqProofs only [ldM t.gm,ldH t.gh]
 refine ⟨_,AP7 G m hm x hn H,?_⟩
 try simp -implicitDefEqProofs only [F6,EF,DZ,FC,EH,FH,GK,PQ,FI,IK,I7,GZ,F7,BK,BA,CJ,CO,AO,AA,AZ,AU,CB,BM,CP,DY,AB,J7,jD,jF,↓reduceIte,jB,jM,jA,beq_self_eq_true]
 refine ⟨_,O6 G hG hT H,?_⟩
 simp -implicitDefEqProofs only []
 exact ⟨by trivial,t.hx⟩
end
end Go.Proofs.YtfpagfhhhlljjaaGreatDoor.Ho
namespace Go.Proofs.YtfpagfhhhlljjaaGreatDoor.Ho
open Sm Bins Cov Go.RowKit
open Bool renaming and_eq_true→jV
open List renaming nil_append→zZ,cons_append→qB,getElem_mem→jP,mem_map→zN,length_map→jH
theorem AWJ (a b:ByteArray):(a.toList == b.toList)=decide (a=b):=by
 cases h:(a.toList == b.toList)
 ·rw [decide_eq_false (ALM h)]
 ·rw [decide_eq_true (Xe.str_eq h)]
theorem XU {c:UInt8} : ∀ {x y T T':List UInt8},(∀ z∈x,z≠c)→(∀ z∈y,z≠c)→(T = []∨∃ r,T=c :: r)→(T' = []∨∃ r,T'=c :: r)→x ++ T=y ++ T'→x=y∧T=T'
 | [],[],_,_,_,_,_,_,h=>⟨rfl,h⟩
 | [],b :: y,T,T',_,hy,hT,_,h=>by
   rcases hT with rfl | ⟨r,rfl⟩
   ·cases h
   ·simp only [zZ,qB,List.cons.injEq] at h
    exact absurd h.1.symm (hy b (by simp))
 | a :: x,[],T,T',hx,_,_,hT',h=>by
   rcases hT' with rfl | ⟨r,rfl⟩
   ·cases h
   ·simp only [zZ,qB,List.cons.injEq] at h
    exact absurd h.1 (hx a (by simp))
 | a :: x,b :: y,T,T',hx,hy,hT,hT',h=>by
   simp only [qB,List.cons.injEq] at h
   obtain ⟨i1,i2⟩:=XU (fun z hz=>hx z (by simp [hz])) (fun z hz=>hy z (by simp [hz])) hT hT' h.2
   exact ⟨by rw [h.1,i1],i2⟩
theorem VL (r:List (List UInt8)):Lib.joinTail [44] r = []∨∃ t,Lib.joinTail [44] r=44 :: t:=by
 cases r with
 | nil=>exact .inl rfl
 | cons x r=>exact .inr ⟨x ++ Lib.joinTail [44] r,rfl⟩
theorem VM (x:List UInt8) (r:List (List UInt8)):Lib.joinTail [44] (x :: r)=44 :: (x ++ Lib.joinTail [44] r):=rfl
theorem AH5 : ∀ {r s:List (List UInt8)},(∀ x∈r,∀ z∈x,z≠44)→(∀ x∈s,∀ z∈x,z≠44)→Lib.joinTail [44] r=Lib.joinTail [44] s→r=s
 | [],[],_,_,_=>rfl
 | [],y :: s,_,_,h=>by rw [VM] at h; cases h
 | x :: r,[],_,_,h=>by rw [VM] at h; cases h
 | x :: r,y :: s,hr,hs,h=>by
   rw [VM,VM] at h
   obtain ⟨i1,i2⟩:=XU (hr x (by simp)) (hs y (by simp)) (VL r) (VL s) (List.cons.inj h).2
   rw [i1,AH5 (fun a ha=>hr a (by simp [ha])) (fun a ha=>hs a (by simp [ha])) i2]
theorem ATZ {r s:List (List UInt8)} (h1:r≠[]) (h2:s≠[]) (hr : ∀ x∈r,∀ z∈x,z≠44) (hs : ∀ x∈s,∀ z∈x,z≠44) (h:Lib.join r [44]=Lib.join s [44]):r=s:=by
 cases r with
 | nil=>exact absurd rfl h1
 | cons x r =>
   cases s with
   | nil=>exact absurd rfl h2
   | cons y s =>
     rw [Lib.join_cons,Lib.join_cons] at h
     obtain ⟨i1,i2⟩:=XU (hr x (by simp)) (hs y (by simp)) (VL r) (VL s) h
     rw [i1,AH5 (fun a ha=>hr a (by simp [ha])) (fun a ha=>hs a (by simp [ha])) i2]
theorem WV {s:ByteArray} (h:GM s=true) : ∀ z∈s.data.toList,z≠46∧z≠44:=by
 intro z hz
 unfold GM at h
 rw [jV,jV] at h
 have hw:=h.1.1
 unfold QR at hw
 rw [jV,List.all_eq_true] at hw
 have:=hw.2 z hz
 refine ⟨?_,?_⟩ <;> (rintro rfl; revert this; decide)
theorem AMS {N:List ByteArray} (h:MZ N=false) : ∀ i j (hi:i < N.length) (hj:j < N.length),N[i]=N[j]→i=j:=by
 have gen : ∀ (l seen:List ByteArray),AA9 seen l=false→(∀ s∈seen,∀ x∈l,x≠s)∧∀ i j (hi:i < l.length) (hj:j < l.length),l[i]=l[j]→i=j:=by
  intro l
  induction l with
  | nil=>intro seen _; exact ⟨fun s _ x hx=>(by cases hx),fun i j hi=>(by simp at hi)⟩
  | cons x xs ih =>
    intro seen h
    rw [AA9,Bool.or_eq_false_iff] at h
    obtain ⟨h1,h2⟩:=h
    obtain ⟨i1,i2⟩:=ih _ h2
    refine ⟨fun s hs y hy => ?_,fun i j hi hj e => ?_⟩
    ·rcases List.mem_cons.1 hy with rfl | hy
     ·rintro rfl
      have:IJ seen y=true:=by
       unfold IJ
       rw [List.any_eq_true]
       exact ⟨y,hs,by simp⟩
      rw [this] at h1; cases h1
     ·exact i1 s (by simp [hs]) y hy
    ·have hx : ∀ y∈xs,y≠x:=fun y hy=>i1 x (by simp) y hy
     match i,j with
     | 0,0=>rfl
     | 0,j+1=>exact absurd e.symm (hx _ (by simp))
     | i+1,0=>exact absurd e (hx _ (by simp))
     | i+1,j+1=>rw [i2 i j (by simpa using hi) (by simpa using hj) (by simpa using e)]
 exact (gen N [] h).2
structure NmM (m:Mo):Prop where
 pn : ∀ p∈m.pts,GM p.name=true∧(∀ b∈p.bins,GM b.name=true)∧MZ (p.bins.map (·.name))=false
 pd:MZ (m.pts.map (·.name))=false
 cn : ∀ c∈m.crs,GM c.name=true
 cd:MZ (m.crs.map (·.name))=false
theorem A0L {m:Mo} (h:G5 m=0):NmM m:=by
 unfold G5 at h
 split at h
 ·cases h
 split at h
 ·rename_i q; exact absurd h q
 rename_i q1
 split at h
 ·cases h
 rename_i q2
 split at h
 ·rename_i q; exact absurd h q
 rename_i q3
 split at h
 ·cases h
 rename_i q4
 refine ⟨fun p hp => ?_,by simpa using q2,fun c hc => ?_,by simpa using q4⟩
 ·have hpt:=OA _ (by simpa using q1) p hp
  unfold GL at hpt
  split at hpt
  ·cases hpt
  rename_i r1
  split at hpt
  ·rename_i q; exact absurd hpt q
  split at hpt
  ·cases hpt
  split at hpt
  ·cases hpt
  split at hpt
  ·rename_i q; exact absurd hpt q
  rename_i r2
  split at hpt
  ·cases hpt
  rename_i r3
  refine ⟨by simpa using r1,fun b hb => ?_,by simpa using r3⟩
  have hv:=OA _ (by simpa using r2) b hb
  unfold H6 at hv
  split at hv
  ·assumption
  ·cases hv
 ·have hce:=OA _ (by simpa using q3) c hc
  unfold H8 at hce
  split at hce
  ·cases hce
  rename_i r1
  simpa using r1
theorem AOZ {m:Mo} (hm:MoOk m) {x:Hl} (hv:NU m x=true) : ∃ nm0:ByteArray,prH m x=nm0 ++ dot ++ UE ((LU m x).map (nmQ m))∧(x.cross=false→∃ i,∃ hi:i < m.pts.length,x.idx=(i:Int)∧nm0=m.pts[i].name) ∧
  (x.cross=true→∃ i,∃ hi:i < m.crs.length,x.idx=(i:Int)∧nm0=m.crs[i].name):=by
 obtain ⟨q0,h0,nm0,_,h1,h2,h3⟩:=AOG hm hv
 refine ⟨nm0,h1,fun hc => ?_,h3⟩
 obtain ⟨a,b⟩:=h2 hc
 refine ⟨q0.1,a,?_,b⟩
 have hp:=(ZA hv).pts
 unfold UM at hp
 rw [if_neg (by rw [hc]; decide)] at hp
 have:([x.idx]:List Int)[0]? = ((LU m x).map fun q=>((q.1:Nat):Int))[0]? := by rw [hp]
 rw [List.getElem?_map,h0] at this
 simpa using this
theorem AUQ (a b:ByteArray):(a ++ b).data.toList=a.data.toList ++ b.data.toList:=by simp
theorem AL5 {m:Mo} {a b:Hl} (hm:MoOk m) (ha:NU m a=true) (hb:NU m b=true) (hN:ABL m m.pts.length):decide (prH m a=prH m b)=AX5 a b:=by
 have N:=A0L (AF8 ha)
 have La:=ZA ha
 have Lb:=ZA hb
 obtain ⟨na,pa,a1,a2⟩:=AOZ hm ha
 obtain ⟨nb,pb,b1,b2⟩:=AOZ hm hb
 have hna:GM na=true:=by
  cases hc:a.cross
  ·obtain ⟨i,hi,_,e⟩:=a1 hc
   rw [e]; exact (N.pn _ (jP hi)).1
  ·obtain ⟨i,hi,_,e⟩:=a2 hc
   rw [e]; exact N.cn _ (jP hi)
 have hnb:GM nb=true:=by
  cases hc:b.cross
  ·obtain ⟨i,hi,_,e⟩:=b1 hc
   rw [e]; exact (N.pn _ (jP hi)).1
  ·obtain ⟨i,hi,_,e⟩:=b2 hc
   rw [e]; exact N.cn _ (jP hi)
 have hsig : ∀ {x:Hl},Prt m x (LU m x)→∀ y∈((LU m x).map (nmQ m)).map (·.data.toList),∀ z∈y,z≠44:=by
  intro x Lx y hy z hz
  obtain ⟨s,hs,rfl⟩:=zN.1 hy
  obtain ⟨q,hq,rfl⟩:=zN.1 hs
  obtain ⟨h1,h2⟩:=Lx.ok q hq
  rw [ACD h1 h2] at hz
  exact (WV ((N.pn _ (jP h1)).2.1 _ (jP h2)) z hz).2
 have hne : ∀ {x:Hl},Prt m x (LU m x)→((LU m x).map (nmQ m)).map (·.data.toList)≠[]:=by
  intro x Lx q
  have:=congrArg List.length q
  have h1:=Lx.n1
  rw [jH,jH,List.length_nil] at this
  omega
 rw [Bool.eq_iff_iff,decide_eq_true_iff]
 unfold AX5
 simp only [jV,beq_iff_eq,decide_eq_true_eq]
 constructor
 ·intro e
  rw [pa,pb] at e
  have e2:=congrArg (fun s:ByteArray=>s.data.toList) e
  simp only [AUQ,List.append_assoc] at e2
  obtain ⟨i1,i2⟩:=XU (c:=46) (fun z hz=>(WV hna z hz).1) (fun z hz=>(WV hnb z hz).1) (.inr ⟨_,rfl⟩) (.inr ⟨_,rfl⟩) e2
  have hnn:na=nb:=Z5 i1
  have i3:Lib.join (((LU m a).map (nmQ m)).map (·.data.toList)) [44]=Lib.join (((LU m b).map (nmQ m)).map (·.data.toList)) [44]:=by
   have:=(List.cons.inj i2).2
   simpa [UE] using this
  have i4:=ATZ (hne La) (hne Lb) (hsig La) (hsig Lb) i3
  have i5:(LU m a).map (nmQ m)=(LU m b).map (nmQ m):=(List.map_inj_right (fun x y h=>Z5 h)).1 i4
  have hci:a.cross=b.cross∧a.idx=b.idx:=by
   cases hca:a.cross <;> cases hcb:b.cross
   ·obtain ⟨i,hi,e1,e2⟩:=a1 hca
    obtain ⟨j,hj,e3,e4⟩:=b1 hcb
    rw [e2,e4] at hnn
    have:=AMS N.pd i j (by simpa using hi) (by simpa using hj) (by simpa using hnn)
    exact ⟨rfl,by rw [e1,e3,this]⟩
   ·obtain ⟨i,hi,e1,e2⟩:=a1 hca
    obtain ⟨j,hj,e3,e4⟩:=b2 hcb
    rw [e2,e4] at hnn
    exact absurd hnn.symm ((hN i hi hi).2 j hj hj)
   ·obtain ⟨i,hi,e1,e2⟩:=a2 hca
    obtain ⟨j,hj,e3,e4⟩:=b1 hcb
    rw [e2,e4] at hnn
    exact absurd hnn ((hN j hj hj).2 i hi hi)
   ·obtain ⟨i,hi,e1,e2⟩:=a2 hca
    obtain ⟨j,hj,e3,e4⟩:=b2 hcb
    rw [e2,e4] at hnn
    have:=AMS N.cd i j (by simpa using hi) (by simpa using hj) (by simpa using hnn)
    exact ⟨rfl,by rw [e1,e3,this]⟩
  refine ⟨hci.1,hci.2,?_⟩
  have hh:UM m a=UM m b:=by unfold UM; rw [hci.1,hci.2]
  have hp:(LU m a).map (fun q=>((q.1:Nat):Int))=(LU m b).map (fun q=>((q.1:Nat):Int)):=by rw [← La.pts,← Lb.pts,hh]
  rw [La.bins,Lb.bins]
  have gen : ∀ (A B:List (Nat × Nat)),(∀ q∈A,∃ h:q.1 < m.pts.length,q.2 < m.pts[q.1].bins.length)→(∀ q∈B,∃ h:q.1 < m.pts.length,q.2 < m.pts[q.1].bins.length) →
    A.map (nmQ m)=B.map (nmQ m)→A.map (fun q=>((q.1:Nat):Int))=B.map (fun q=>((q.1:Nat):Int))→A.map (fun q=>((q.2:Nat):Int))=B.map (fun q=>((q.2:Nat):Int)):=by
   intro A
   induction A with
   | nil=>intro B _ _ h _; cases B with
     | nil=>rfl
     | cons y ys=>cases h
   | cons x xs ih =>
     intro B hA hB h1 h2
     cases B with
     | nil=>cases h1
     | cons y ys =>
       simp only [List.map_cons,List.cons.injEq] at h1 h2 ⊢
       refine ⟨?_,ih ys (fun q hq=>hA q (by simp [hq])) (fun q hq=>hB q (by simp [hq])) h1.2 h2.2⟩
       obtain ⟨x1,x2⟩:=hA x (by simp)
       obtain ⟨y1,y2⟩:=hB y (by simp)
       have hxy:x.1=y.1:=by have:=h2.1; omega
       have hn:=h1.1
       rw [ACD x1 x2,ACD y1 y2] at hn
       obtain ⟨xa,xb⟩:=x
       obtain ⟨ya,yb⟩:=y
       simp only at hxy hn x1 x2 y1 y2 ⊢
       subst hxy
       have:=AMS (N.pn _ (jP x1)).2.2 xb yb (by simpa using x2) (by simpa using y2) (by simpa using hn)
       rw [this]
  exact gen _ _ La.ok Lb.ok i5 hp
 ·rintro ⟨h1,h2,h3⟩
  have hh:LU m a=LU m b:=by unfold LU UM; rw [h1,h2,h3]
  rw [pa,pb,hh]
  have:na=nb:=by
   cases hca:a.cross
   ·obtain ⟨i,hi,e1,e2⟩:=a1 hca
    obtain ⟨j,hj,e3,e4⟩:=b1 (by rw [← h1,hca])
    obtain rfl:i=j:=by omega
    rw [e2,e4]
   ·obtain ⟨i,hi,e1,e2⟩:=a2 hca
    obtain ⟨j,hj,e3,e4⟩:=b2 (by rw [← h1,hca])
    obtain rfl:i=j:=by omega
    rw [e2,e4]
  rw [this]
end Go.Proofs.YtfpagfhhhlljjaaGreatDoor.Ho
set_option linter.unusedSimpArgs false
set_option maxRecDepth 8000
namespace Go.Proofs.YtfpagfhhhlljjaaGreatDoor.Ho
open Sm Bins Cov Xe Go.RowKit
open Bool renaming not_false→jC,not_true→jU
open List renaming getElem?_append_left→zI,map_cons→jE,map_nil→jD,append_nil→jF,length_map→jH
open Nat renaming reduceEqDiff→jB,zero_add→jG,reduceAdd→jM
open Option renaming getD_some→jA
structure Hc (h H:Hp) (m:Mo) (a b:Hl) (b1 b2:Nat):Prop where
 gm:H[h.length]? = some (ABlk.live 2 [D8 m])
 ga:H[b1]? = some (ABlk.live 3 [GG a])
 gb:H[b2]? = some (ABlk.live 3 [GG b])
 hx:Sm.ext h H
theorem Hc.mk' (h:Hp) (m:Mo) (a b:Hl):Hc h (h ++ [ABlk.live 2 [D8 m]] ++ [ABlk.live 3 [GG a]] ++ [ABlk.live 3 [GG b]]) m a b (h ++ [ABlk.live 2 [D8 m]]).length (h ++ [ABlk.live 2 [D8 m]] ++ [ABlk.live 3 [GG a]]).length :=
 ⟨CV (CV (CY _ _)),CV (CY _ _),CY _ _,(((ext.rfl' h).app _).app _).app _⟩
section
variable (G:Nat→AV)
theorem AQF (m:Mo) (hm:MoOk m) (h:Hp):ACalls (En G) 22 [.agg (D8 m)] h fun v H=>(∃ b:Bool,v = .bool b∧(b=true→ABL m m.pts.length))∧H=h :=
 (AL6 G m hm h).trunc fun v H hR=>by
  obtain ⟨⟨b,rfl,hb⟩,x,rfl⟩:=hR
  exact ⟨1,h,rfl,fun b hb => .inr (.inl ⟨by rw [zI hb],by rw [zI hb]⟩),⟨b,rfl,hb⟩,rfl⟩
set_option maxHeartbeats 2000000 in
theorem A1N (hG:GOk G) (hT:RG G) (m:Mo) (hm:MoOk m) (a b:Hl) (ha:a.bins.length≤1048576) (hb:b.bins.length≤1048576) (h:Hp):PCall (En G) 8 [.agg (D8 m),.agg (GG a),.agg (GG b)] h (.bool true):=by
 refine ACalls.pure0 rfl ?_
 refine acN Tryz.func8 rfl ?_
 show awp _ _ _ _ _ (EJ _ [.tmp 6] _)
 have t:=Hc.mk' h m a b
 simp -implicitDefEqProofs only [BC,A8,BA,AY,BB,AO,AQ,AL,BD,AX,AC,AA,AZ,AU,BM,A7,FD,BN,BU,BF,BP,↓reduceIte,jB,jA,jC,enP,bxM,bxH]
 generalize h ++ [ABlk.live 2 [D8 m]] ++ [ABlk.live 3 [GG a]] ++ [ABlk.live 3 [GG b]]=H at t ⊢
 generalize (h ++ [ABlk.live 2 [D8 m]] ++ [ABlk.live 3 [GG a]]).length=b2 at t ⊢
 generalize (h ++ [ABlk.live 2 [D8 m]]).length=b1 at t ⊢
 have fin : ∀ v H',v=AV.bool true∧H'=H→v=AV.bool true∧Sm.ext h H':=fun v H' ⟨e1,e2⟩=>⟨e1,by rw [e2]; exact t.hx⟩
 simp -implicitDefEqProofs only [AY,AO,AQ,AL,BD,AX,AC,AA,AZ,CB,CG,BX,AB,jE,jD,jF,↓reduceIte,jA,jC,ldM t.gm]
 refine (AC6 G m hm H).use ?_
 intro q0
 cases q0
 ·simp -implicitDefEqProofs only [BC,A8,BI,BA,DT,AY,BB,BL,BV,CO,FP,AO,AQ,AL,BD,AX,AC,AA,EQ,AZ,AU,CB,BM,BG,CP,DY,G7,CG,BX,AB,ES,jD,jF,↓reduceIte,jB,jA,jC]
  refine (O6 G hG hT H).use ?_
  simp -implicitDefEqProofs only [BK,BA,CQ,CJ,AY,BB,AO,AQ,AL,BD,AX,AC,AA,AZ,A7,↓reduceIte,jA,jC]
  exact ⟨by trivial,t.hx⟩
 simp -implicitDefEqProofs only [AY,BL,BV,CO,EM,AO,AQ,AL,BD,AX,AC,AA,AZ,AU,BH,BM,BG,CP,DR,BN,BR,G7,BJ,DU,AB,EY,ES,↓reduceIte,jB,jG,jA,jU,jC,enP,JG,J6,TT t.ga,jH]
 rcases Bool.eq_false_or_eq_true (decide (((a.bins.length:Nat):Int) > 10)) with h1 | h1
 ·simp -implicitDefEqProofs only [BC,A8,BI,BA,DT,AY,BB,BL,BV,CO,FP,AO,AQ,AL,BD,AX,AC,AA,EQ,AZ,AU,CB,BM,BG,CP,DY,CG,BX,jD,jF,↓reduceIte,jB,jA,jC,h1]
  refine (O6 G hG hT H).use ?_
  simp -implicitDefEqProofs only [BK,BA,CQ,CJ,AY,BB,AO,AQ,AL,BD,AX,AC,AA,AZ,A7,↓reduceIte,jA,jC]
  exact ⟨by trivial,t.hx⟩
 simp -implicitDefEqProofs only [AY,BL,BV,CO,EM,AO,AQ,AL,BD,AX,AC,AA,AZ,AU,BH,BM,BG,CP,DR,BN,BR,BJ,DU,AB,EY,↓reduceIte,jB,jG,jA,jC,enP,JG,J6,h1,TT t.gb,jH]
 rcases Bool.eq_false_or_eq_true (decide (((b.bins.length:Nat):Int) > 10)) with h2 | h2
 ·simp -implicitDefEqProofs only [BC,A8,BI,BA,DT,AY,BB,BL,BV,CO,FP,AO,AQ,AL,BD,AX,AC,AA,EQ,AZ,AU,CB,BM,BG,CP,DY,CG,BX,jD,jF,↓reduceIte,jB,jA,jC,h2]
  refine (O6 G hG hT H).use ?_
  simp -implicitDefEqProofs only [BK,BA,CQ,CJ,AY,BB,AO,AQ,AL,BD,AX,AC,AA,AZ,A7,↓reduceIte,jA,jC]
  exact ⟨by trivial,t.hx⟩
 simp -implicitDefEqProofs only [BL,BV,CO,EM,AO,AQ,AL,BD,AX,AC,AA,AZ,CB,BN,CG,BX,AB,jE,jD,jF,↓reduceIte,jB,jA,jC,enP,h2,ldM t.gm]
 refine (AQF G m hm H).mono ?_
 rintro _ _ ⟨⟨q1,rfl,hN⟩,rfl⟩
 cases q1
 ·simp -implicitDefEqProofs only [BC,A8,BI,BA,DT,AY,BB,BL,BV,CO,EM,FP,AO,AQ,AL,BD,AX,AC,AA,EQ,AZ,AU,CB,BM,BG,CP,DY,DR,G7,CG,BX,AB,ES,jD,jF,↓reduceIte,jB,jA,jC]
  refine (O6 G hG hT _).use ?_
  simp -implicitDefEqProofs only [BK,BA,CQ,CJ,AY,BB,AO,AQ,AL,BD,AX,AC,AA,AZ,A7,↓reduceIte,jA,jC]
  exact ⟨by trivial,t.hx⟩
 have hN:=hN rfl
 simp -implicitDefEqProofs only [AY,BL,BV,CO,EM,AO,AQ,AL,BD,AX,AC,AA,AZ,AU,CB,BM,BG,CP,DR,BN,G7,CG,BX,AB,ES,jE,jD,jF,↓reduceIte,jB,jA,jU,jC,enP,ldM t.gm,ldH t.ga]
 refine (valid_ref G m hm a ha _).use ?_
 cases hva:NU m a
 ·simp -implicitDefEqProofs only [BC,A8,BI,BA,DT,AY,BB,BL,BV,CO,EM,FP,AO,AQ,AL,BD,AX,AC,AA,EQ,AZ,AU,CB,BM,BG,CP,DY,DR,G7,CG,BX,AB,ES,jD,jF,↓reduceIte,jB,jA,jC]
  refine (O6 G hG hT _).use ?_
  simp -implicitDefEqProofs only [BK,BA,CQ,CJ,AY,BB,AO,AQ,AL,BD,AX,AC,AA,AZ,A7,↓reduceIte,jA,jC]
  exact ⟨by trivial,t.hx⟩
 simp -implicitDefEqProofs only [AY,BL,BV,CO,EM,AO,AQ,AL,BD,AX,AC,AA,AZ,AU,CB,BM,BG,CP,DR,BN,G7,CG,BX,AB,ES,jE,jD,jF,↓reduceIte,jB,jA,jU,jC,enP,ldM t.gm,ldH t.gb]
 refine (valid_ref G m hm b hb _).use ?_
 cases hvb:NU m b
 ·simp -implicitDefEqProofs only [BC,A8,BI,BA,DT,AY,BB,BL,BV,CO,EM,AO,AQ,AL,BD,AX,AC,AA,AZ,AU,CB,BM,CP,DR,G7,CG,BX,AB,ES,jD,jF,↓reduceIte,jB,jA,jC]
  refine (O6 G hG hT _).use ?_
  simp -implicitDefEqProofs only [BK,BA,CQ,CJ,AY,BB,AO,AQ,AL,BD,AX,AC,AA,AZ,A7,↓reduceIte,jA,jC]
  exact ⟨by trivial,t.hx⟩
 have key:=AL5 hm hva hvb hN
 rw [← AWJ] at key
 simp -implicitDefEqProofs only [BC,BO,BI,BA,D5,AY,BB,BL,BV,CO,EM,AO,AQ,AL,BD,AX,AC,AA,AZ,AU,BM,CP,DR,G7,AB,ES,↓reduceIte,jB,jA,jU,jC]
 refine EX (by kernel_rfl) ?_
 simp -implicitDefEqProofs only [F6,EF,DZ,EH,FB,GZ,F7,AO,AA,AZ,CB,BN,AB,jE,jD,jF,↓reduceIte,jB,jM,jA,enP,ldM t.gm,ldH t.ga]
 refine ⟨_,TP G hG m hm a ha _,?_⟩
 simp -implicitDefEqProofs only [F6,EF,DZ,EH,IB,GZ,F7,AO,AA,AZ,CB,BR,AB,jE,jD,jF,↓reduceIte,jB,jM,jA,enP,ldM t.gm,ldH t.gb]
 refine ⟨_,TP G hG m hm b hb _,?_⟩
 simp -implicitDefEqProofs only [F6,EF,DZ,EH,FB,IB,GZ,F7,AO,AA,AZ,CB,BN,BR,AB,J7,jE,jD,jF,↓reduceIte,jB,jM,jA,enP,ldH t.ga,ldH t.gb]
 refine ⟨_,ASX G a b ha _,?_⟩
 simp -implicitDefEqProofs only [F6,EF,DZ,FC,EH,FH,GK,PQ,FI,IK,I7,GZ,F7,BK,BA,CJ,CO,AO,AA,AZ,AU,CB,BM,CP,DY,AB,jD,jF,↓reduceIte,jB,jM,jA,be4,key,beq_self_eq_true]
 refine ⟨_,O6 G hG hT _,?_⟩
 simp -implicitDefEqProofs only []
 exact ⟨by trivial,t.hx⟩
end
end Go.Proofs.YtfpagfhhhlljjaaGreatDoor.Ho
