/- Part 6 of the proof (E8, E9, E10); no condition. -/
import Derived.Test.YtokehnfjjmpanaaGreatDoorYA5
set_option linter.unusedVariables false
set_option linter.unusedSimpArgs false
set_option maxRecDepth 8000
namespace Go.Proofs.YtokehnfjjmpanaaGreatDoor.Cov
open Sm Bins Go.RowKit
open Bool renaming not_false→jC,or_false→jO
open List renaming getElem?_append_left→zO,take_of_length_le→jY,getElem?_set→jW,length_append→zQ,take_succ_cons→qI,contains_cons→jP,contains_nil→jQ,map_cons→jF,map_nil→jD,append_nil→jE,append_assoc→zS
open Nat renaming le_of_ble_eq_true→jH,reduceEqDiff→jA,zero_add→jG,le_refl→jL,reduceBEq→jR,add_zero→jI,reduceAdd→jK
open Option renaming getD_some→jB,getD_none→jJ
theorem PH {E:Env} {H:Hint} {x y:Code} {F:Fr} {h:Hp} {Q:AEx→Fr→Hp→Prop} {b:Bool} (N R:Fr→Hp→Prop) (h1:b=true→awp E H x F h (AOZ N R)) (h2:b=false→awp E H y F h (AOZ N R)) (hn : ∀ F h,N F h→Q .normal F h) (hr : ∀ F h,R F h→Q .ret F h) :
 Z7 E H x y F h Q (.bool b):=⟨fun e=>TS N R (h1 e) hn hr,fun e=>TS N R (h2 e) hn hr⟩
def isB (v:AV) (b:Nat):Prop:=match v with
 | .own b' _ _=>b'=b
 | _=>False
def sv (h:Hp) (m:Nat) (v:AV):Prop := ∃ vs:List ByteArray,vs.length≤m∧((vs = []∧∃ k,v = .sl .nil k [])∨∃ b,v = .own b 0 vs.length∧h[b]? = some (.live 1 (vs.map encStr)))
theorem APG (G:Nat→AV) (k:Nat) (v:ByteArray) (h:Hp):PCall (En G) 180 [.sl .nil k [],.str v] h (.bool false):=by
 refine acN Tryz.func180 rfl ?_
 show awp _ _ _ _ _ (EH _ [.tmp 4] _)
 simp -implicitDefEqProofs only [BB,CJ,A8,A7,AZ,BA,AC,AQ,AO,BD,AX,AL,AU,BH,BM,BC,jB,jC,enX,enP]
 refine D8 (fun n F H=>F 0 = .sl .nil k []∧F 5 = .int .i64 0∧H=h) 0 ⟨rfl,rfl,rfl⟩ ?_
 rintro n F H ⟨f0,f5,rfl⟩
 simp -implicitDefEqProofs only [BB,A8,BJ,A7,AZ,BA,AC,AQ,AO,BD,AX,AL,AA,AY,BI,BR,FH,AB,DF,↓reduceIte,jA,jB,jC,enP,XR,f0,f5,List.length_nil]
 have:decide ((0:Int) < ((0:Nat):Int))=false:=by simp
 simp -implicitDefEqProofs only [BB,A8,BK,D6,A7,E5,FY,GG,CW,EC,AZ,BA,AC,AQ,AO,BD,AX,AL,AA,AU,BM,BC,↓reduceIte,jB,jC,this]
 exact ⟨trivial,trivial⟩
theorem AIA {α:Type} {f:α→List AV} {xs:List α} {k:Nat} (hk:k < xs.length):(xs.map f)[k]? = some (f xs[k]):=by
 rw [List.getElem?_map,List.getElem?_eq_getElem hk]; rfl
theorem Q5 {h x:Hp} {y:ABlk} {b:Nat} (hb:h[b]? = some y):(h ++ x)[b]? = some y:=by
 rw [zO (CB hb)]; exact hb
theorem APF (G:Nat→AV) (xs:List ByteArray) (b:Nat) (v:ByteArray) (h:Hp) (hb:h[b]? = some (.live 1 (xs.map encStr))) (hl:xs.length≤1099511627776) :
  PCall (En G) 180 [.own b 0 xs.length,.str v] h (.bool (KP xs v)):=by
 refine acN Tryz.func180 rfl ?_
 show awp _ _ _ _ _ (EH _ [.tmp 4] _)
 simp -implicitDefEqProofs only [BB,CJ,A8,A7,AZ,BA,AC,AQ,AO,BD,AX,AL,AU,BH,BM,BC,jB,jC,enX,enP]
 refine D8 (fun n F H => ∃ k,n+k=xs.length∧F 0 = .own b 0 xs.length∧F 1 = .str v∧F 5 = .int .i64 (k:Nat)∧H=h∧KP xs v=KP (xs.drop k) v) xs.length ⟨0,by simp,rfl,rfl,rfl,rfl,rfl⟩ ?_
 rintro n F H ⟨k,hk,f0,f1,f5,rfl,hin⟩
 simp -implicitDefEqProofs only [BB,A8,BJ,A7,AZ,BA,AC,AQ,AO,BD,AX,AL,AA,AY,BI,BR,FH,AB,DF,↓reduceIte,jA,jB,jC,enP,XR,f0,f1,f5]
 refine CS (fun hc => ?_) (fun hc => ?_)
 ·have hc':k < xs.length:=by simpa using hc
  have hs:KP (xs.drop k) v=((v.toList == xs[k].toList) || KP (xs.drop (k+1)) v):=AAI _ xs k hc'
  have l1:DI Tryz.prog H 9 (.ptr b k 0)=some (.str xs[k]):=by rw [DC ag9 hb (row:=encStr xs[k]) (AIA hc')]; rfl
  simp -implicitDefEqProofs only [BB,CJ,A8,BQ,BJ,A7,AZ,BA,AC,AQ,AO,BD,AX,AL,AA,AY,BI,BN,BR,CU,AB,KW,↓reduceIte,jA,jG,jB,jC,enP,AEO,f0,f1,f5,KD hb hc',l1]
  refine CS (fun hb => ?_) (fun hb => ?_)
  ·simp -implicitDefEqProofs only [BB,A8,BK,A7,CQ,D5,FV,CW,AZ,BA,AC,AQ,AO,BD,AX,AL,AA,AU,BM,BC,↓reduceIte,jB,jC]
   refine ⟨?_,trivial⟩
   rw [hin,hs,show (v.toList == xs[k].toList)=true by rw [BEq.comm]; exact hb]; rfl
  ·simp -implicitDefEqProofs only [A8,BQ,A7,EO,FK,AZ,BA,AC,AQ,AO,BD,AX,AL,AA,AY,AU,BH,BI,BC,BR,AB,DZ,↓reduceIte,jA,jB,jC,enP,f5,wrap_succ (show k < 9223372036854775807 by omega)]
   refine ⟨n - 1,by omega,k+1,by omega,f0,f1,rfl,trivial,?_⟩
   rw [hin,hs,show (v.toList == xs[k].toList)=false by rw [BEq.comm]; exact hb]; rfl
 ·have hc' : ¬ k < xs.length:=by simpa using hc
  simp -implicitDefEqProofs only [BB,A8,BK,D6,A7,E5,FY,GG,CW,AZ,BA,AC,AQ,AO,BD,AX,AL,AA,AU,BM,BC,↓reduceIte,jB,jC]
  exact ⟨by rw [hin,List.drop_eq_nil_of_le (by omega)]; rfl,trivial⟩
theorem AMH (G:Nat→AV) {h:Hp} {m:Nat} {v:AV} (s:ByteArray) (hv:sv h m v) (hm:m≤1099511627776) : ∃ r,PCall (En G) 180 [v,.str s] h (.bool r):=by
 obtain ⟨vs,hl,⟨_,k,rfl⟩ | ⟨b,rfl,hb⟩⟩:=hv
 ·exact ⟨_,APG G k s h⟩
 ·exact ⟨_,APF G vs b s h hb (by omega)⟩
theorem ANC (h:Hp) (s:ByteArray):FM Tryz.prog false h 120 1 [(0,.str s)]=some (.sl .full 1 [[.str s]],h):=by kernel_rfl
theorem ANN {h:Hp} {m:Nat} {v:AV} (s:ByteArray) (hv:sv h m v) (hm:m≤1099511627776) : ∃ v' h',IC Tryz.prog true h 120 120 v (.sl .full 1 [[.str s]])=some (v',h')∧sv h' (m+1) v'∧(∀ b,isB v' b→b=h.length) ∧
  h.length≤h'.length∧∀ b,b < h.length→¬ isB v b→h'[b]? = h[b]? := by
 obtain ⟨vs,hl,⟨rfl,k,rfl⟩ | ⟨b,rfl,hb⟩⟩:=hv
 ·refine ⟨_,_,AC9 AK9 sz9 AKY ANA (NZ h .full 1 [[.str s]]) (by simp) (OI (by simp) (by omega)),⟨[s],by simp,.inr ⟨h.length,rfl,C9 _ _⟩⟩,fun b hb=>hb.symm,by simp,fun b hb _=>zO hb⟩
 ·have hc:JZ h (.own b 0 vs.length)=some (1,vs.map encStr):=by
   rw [TR hb (by simp),List.drop_zero,jY (by simp)]
  refine ⟨_,_,AC8 AK9 sz9 AKY ANA hc (NZ h .full 1 [[.str s]]) (by simp) (by unfold room; simp; omega),⟨vs ++ [s],by simp; omega,.inr ⟨h.length,by simp,by simp [encStr]⟩⟩,fun b hb=>hb.symm,by simp,fun o ho hn => ?_⟩
  rw [zO (by simpa using ho)]
  have hn' : ¬ b=o:=hn
  rw [jW,if_neg hn']
def wRow (n dd:Nat) (f:Int) (v1 v2:AV):List AV := [.int .i64 n,.int .i64 dd,.int .i64 f,v1,v2]
structure St (h:Hp) (c m1 m2 n dd:Nat) (f:Int) (v1 v2:AV):Prop where
 w:h[c]? = some (.live 5 [wRow n dd f v1 v2])
 s1:sv h m1 v1
 s2:sv h m2 v2
 ap : ∀ b,isB v1 b→¬ isB v2 b
theorem sv.b {h:Hp} {m:Nat} {v:AV} {b:Nat} (hs:sv h m v) (hb:isB v b) : ∃ vs:List ByteArray,h[b]? = some (.live 1 (vs.map encStr)):=by
 obtain ⟨vs,_,⟨_,k,rfl⟩ | ⟨b',rfl,h'⟩⟩:=hs
 ·exact hb.elim
 ·cases hb; exact ⟨vs,h'⟩
theorem sv.ne {h:Hp} {m b c:Nat} {v:AV} {row:List AV} (hs:sv h m v) (hc:h[c]? = some (.live 5 [row])) (hb:isB v b):b≠c:=by
 intro e; subst e
 obtain ⟨vs,h'⟩:=hs.b hb
 rw [h'] at hc; cases hc
theorem sv.keep {h h':Hp} {m m':Nat} {v:AV} (hs:sv h m v) (hm:m≤m') (hk : ∀ b,isB v b→h'[b]? = h[b]?):sv h' m' v:=by
 obtain ⟨vs,hl,⟨e,k,rfl⟩ | ⟨b,rfl,hb⟩⟩:=hs
 ·exact ⟨vs,by omega,.inl ⟨e,k,rfl⟩⟩
 ·exact ⟨vs,by omega,.inr ⟨b,rfl,by rw [hk b rfl]; exact hb⟩⟩
structure Ch (c:Nat) (v1 v2:AV) (h:Hp) (v1' v2':AV) (h':Hp):Prop where
 len:h.length≤h'.length
 get : ∀ b,b < h.length→b≠c→¬ isB v1 b→¬ isB v2 b→h'[b]? = h[b]?
 n1 : ∀ b,isB v1' b→isB v1 b∨h.length≤b
 n2 : ∀ b,isB v2' b→isB v2 b∨h.length≤b
theorem Ch.refl (c:Nat) (v1 v2:AV) (h:Hp):Ch c v1 v2 h v1 v2 h:=⟨jL _,fun _ _ _ _ _=>rfl,fun _ h => .inl h,fun _ h => .inl h⟩
theorem Ch.trans {c:Nat} {v1 v2 u1 u2 w1 w2:AV} {a b d:Hp} (h1:Ch c v1 v2 a u1 u2 b) (h2:Ch c u1 u2 b w1 w2 d):Ch c v1 v2 a w1 w2 d:=by
 refine ⟨Nat.le_trans h1.len h2.len,fun i hi hc hv hu => ?_,fun i hi => ?_,fun i hi => ?_⟩
 ·rw [h2.get i (Nat.lt_of_lt_of_le hi h1.len) hc (fun e=>(h1.n1 i e).elim hv (fun e=>by omega)) (fun e=>(h1.n2 i e).elim hu (fun e=>by omega)),h1.get i hi hc hv hu]
 ·rcases h2.n1 i hi with h | h
  ·exact h1.n1 i h
  ·exact .inr (Nat.le_trans h1.len h)
 ·rcases h2.n2 i hi with h | h
  ·exact h1.n2 i h
  ·exact .inr (Nat.le_trans h1.len h)
theorem Ch.app (c:Nat) (v1 v2:AV) (h x:Hp):Ch c v1 v2 h v1 v2 (h ++ x):=⟨by simp,fun _ hi _ _ _=>zO hi,fun _ h => .inl h,fun _ h => .inl h⟩
theorem Ch.set (c:Nat) (v1 v2:AV) (h:Hp) (x:ABlk):Ch c v1 v2 h v1 v2 (h.set c x):=⟨by simp,fun _ _ hc _ _=>by rw [jW,if_neg (fun e=>hc e.symm)],fun _ h => .inl h,fun _ h => .inl h⟩
theorem St.app {h:Hp} {c m1 m2 n dd:Nat} {f:Int} {v1 v2:AV} (s:St h c m1 m2 n dd f v1 v2) (x:Hp):St (h ++ x) c m1 m2 n dd f v1 v2:=by
 have keep : ∀ v m,sv h m v→sv (h ++ x) m v:=fun v m hv=>hv.keep (jL _) fun b hb=>by
  obtain ⟨vs,h'⟩:=hv.b hb
  exact zO (CB h')
 exact ⟨Q5 s.w,keep _ _ s.s1,keep _ _ s.s2,s.ap⟩
theorem St.set {h:Hp} {c m1 m2 n dd:Nat} {f:Int} {v1 v2:AV} (s:St h c m1 m2 n dd f v1 v2) (n' dd':Nat) (f':Int):St (h.set c (.live 5 [wRow n' dd' f' v1 v2])) c m1 m2 n' dd' f' v1 v2:=by
 have keep : ∀ v m,sv h m v→sv (h.set c (.live 5 [wRow n' dd' f' v1 v2])) m v:=fun v m hv=>hv.keep (jL _) fun b hb=>by
  rw [jW,if_neg (fun e=>hv.ne s.w hb e.symm)]
 exact ⟨G5 s.w,keep _ _ s.s1,keep _ _ s.s2,s.ap⟩
section
variable {h:Hp} {c m1 m2 n dd:Nat} {f:Int} {v1 v2:AV} (s:St h c m1 m2 n dd f v1 v2)
include s
theorem St.l0:DI Tryz.prog h 3 (.ptr c 0 0)=some (.int .i64 n):=by rw [DC ag3 s.w (row:=wRow n dd f v1 v2) rfl]; rfl
theorem St.l1:DI Tryz.prog h 3 (.ptr c 0 1)=some (.int .i64 dd):=by rw [DC ag3 s.w (row:=wRow n dd f v1 v2) rfl]; rfl
theorem St.l2:DI Tryz.prog h 35 (.ptr c 0 2)=some (.int .i64 f):=by rw [DC ANQ s.w (row:=wRow n dd f v1 v2) rfl]; rfl
theorem St.l3:DI Tryz.prog h 120 (.ptr c 0 3)=some v1:=by rw [DC ABY s.w (row:=wRow n dd f v1 v2) rfl]; rfl
theorem St.l4:DI Tryz.prog h 120 (.ptr c 0 4)=some v2:=by rw [DC ABY s.w (row:=wRow n dd f v1 v2) rfl]; rfl
theorem St.t0 (x:Nat):FT Tryz.prog h 3 (.ptr c 0 0) (.int .i64 x)=some (h.set c (.live 5 [wRow x dd f v1 v2])):=by
 rw [JA (VE _ _) sz3 s.w (row:=wRow n dd f v1 v2) rfl (by simp [wRow])]; rfl
theorem St.t1 (x:Nat):FT Tryz.prog h 3 (.ptr c 0 1) (.int .i64 x)=some (h.set c (.live 5 [wRow n x f v1 v2])):=by
 rw [JA (VE _ _) sz3 s.w (row:=wRow n dd f v1 v2) rfl (by simp [wRow])]; rfl
theorem St.t2 (x:Int):FT Tryz.prog h 35 (.ptr c 0 2) (.int .i64 x)=some (h.set c (.live 5 [wRow n dd x v1 v2])):=by
 rw [JA (VE _ _) ARQ s.w (row:=wRow n dd f v1 v2) rfl (by simp [wRow])]; rfl
end
theorem St.app3 {h:Hp} {c m1 m2 n dd:Nat} {f:Int} {v1 v2:AV} (s:St h c m1 m2 n dd f v1 v2) (x:ByteArray) (hm:m1≤1099511627776) :
  ∃ v' h',IC Tryz.prog true h 120 120 v1 (.sl .full 1 [[.str x]])=some (v',h')∧FT Tryz.prog h' 120 (.ptr c 0 3) v'=some (h'.set c (.live 5 [wRow n dd f v' v2])) ∧
    St (h'.set c (.live 5 [wRow n dd f v' v2])) c (m1+1) m2 n dd f v' v2∧Ch c v1 v2 h v' v2 (h'.set c (.live 5 [wRow n dd f v' v2])):=by
 obtain ⟨v',h',ha,hs,hb,hl,hk⟩:=ANN x s.s1 hm
 have hc1 : ¬ isB v1 c:=fun e=>s.s1.ne s.w e rfl
 have hc2 : ¬ isB v2 c:=fun e=>s.s2.ne s.w e rfl
 have hcl:=CB s.w
 have hw:h'[c]? = some (.live 5 [wRow n dd f v1 v2]):=by rw [hk c hcl hc1]; exact s.w
 have hvc : ∀ b,isB v' b→b≠c:=fun b hb' e=>by have:=hb b hb'; omega
 have hac:IM v'=some [v']:=by
  obtain ⟨vs,_,⟨_,k,rfl⟩ | ⟨b,rfl,_⟩⟩:=hs <;> rfl
 refine ⟨v',h',ha,by rw [JA hac ALF hw (row:=wRow n dd f v1 v2) rfl (by simp [wRow])]; rfl,⟨G5 hw,hs.keep (jL _) fun b hb' => ?_,s.s2.keep (jL _) fun b hb' => ?_,fun b h1 h2 => ?_⟩,⟨by simpa using hl,fun b hbl hne h1 h2 => ?_,fun b hb' => .inr (by rw [hb b hb']; exact jL _),fun b hb' => .inl hb'⟩⟩
 ·rw [jW,if_neg (fun e=>hvc b hb' e.symm)]
 ·obtain ⟨_,hx⟩:=s.s2.b hb'
  rw [jW,if_neg (fun e=>hc2 (by rw [e]; exact hb')),hk b (CB hx) (fun e=>s.ap b e hb')]
 ·obtain ⟨_,hx⟩:=s.s2.b h2
  have:=hb b h1; have:=CB hx; omega
 ·rw [jW,if_neg (fun e=>hne e.symm),hk b hbl h1]
theorem St.app4 {h:Hp} {c m1 m2 n dd:Nat} {f:Int} {v1 v2:AV} (s:St h c m1 m2 n dd f v1 v2) (x:ByteArray) (hm:m2≤1099511627776) :
  ∃ v' h',IC Tryz.prog true h 120 120 v2 (.sl .full 1 [[.str x]])=some (v',h')∧FT Tryz.prog h' 120 (.ptr c 0 4) v'=some (h'.set c (.live 5 [wRow n dd f v1 v'])) ∧
    St (h'.set c (.live 5 [wRow n dd f v1 v'])) c m1 (m2+1) n dd f v1 v'∧Ch c v1 v2 h v1 v' (h'.set c (.live 5 [wRow n dd f v1 v'])):=by
 obtain ⟨v',h',ha,hs,hb,hl,hk⟩:=ANN x s.s2 hm
 have hc1 : ¬ isB v1 c:=fun e=>s.s1.ne s.w e rfl
 have hc2 : ¬ isB v2 c:=fun e=>s.s2.ne s.w e rfl
 have hcl:=CB s.w
 have hw:h'[c]? = some (.live 5 [wRow n dd f v1 v2]):=by rw [hk c hcl hc2]; exact s.w
 have hvc : ∀ b,isB v' b→b≠c:=fun b hb' e=>by have:=hb b hb'; omega
 have hac:IM v'=some [v']:=by
  obtain ⟨vs,_,⟨_,k,rfl⟩ | ⟨b,rfl,_⟩⟩:=hs <;> rfl
 refine ⟨v',h',ha,by rw [JA hac ALF hw (row:=wRow n dd f v1 v2) rfl (by simp [wRow])]; rfl,⟨G5 hw,s.s1.keep (jL _) fun b hb' => ?_,hs.keep (jL _) fun b hb' => ?_,fun b h1 h2 => ?_⟩,⟨by simpa using hl,fun b hbl hne h1 h2 => ?_,fun b hb' => .inl hb',fun b hb' => .inr (by rw [hb b hb']; exact jL _)⟩⟩
 ·obtain ⟨_,hx⟩:=s.s1.b hb'
  rw [jW,if_neg (fun e=>hc1 (by rw [e]; exact hb')),hk b (CB hx) (fun e=>s.ap b hb' e)]
 ·rw [jW,if_neg (fun e=>hvc b hb' e.symm)]
 ·obtain ⟨_,hx⟩:=s.s1.b h1
  have:=hb b h2; have:=CB hx; omega
 ·rw [jW,if_neg (fun e=>hne e.symm),hk b hbl h2]
def UB (z:Int) (xs:List Ex):Int:=xs.foldl (fun z e=>if z=0 then IZ e else z) z
theorem AE3 (z:Int) (xs ys:List Ex):UB z (xs ++ ys)=UB (UB z xs) ys:=List.foldl_append
theorem St.weak {h:Hp} {c m1 m2 m1' m2' n dd:Nat} {f:Int} {v1 v2:AV} (s:St h c m1 m2 n dd f v1 v2) (h1:m1≤m1') (h2:m2≤m2'):St h c m1' m2' n dd f v1 v2 :=
 ⟨s.w,s.s1.keep h1 fun _ _=>rfl,s.s2.keep h2 fun _ _=>rfl,s.ap⟩
def Md (e:Ex) (c d:Nat) (v1 v2:AV) (h:Hp) (m1 m2 n dd:Nat) (f:Int) (F:Nat→AV) (H:Hp):Prop :=
 F 0 = .ptr c 0 0∧F 2 = .int .i64 (d:Nat)∧F 4 = .ptr h.length 0 0∧∃ u1 u2,St H c m1 m2 n dd f u1 u2∧Ch c v1 v2 (h ++ [.live 4 [CV e]]) u1 u2 H
theorem AD9 (xs:List Ex):(IG xs).length≤wts xs:=by
 induction xs with
 | nil=>simp [IG,wts]
 | cons x xs ih=>have:=U0 x; simp only [IG,wts,zQ]; omega
theorem ADM : ∀ (xs:List Ex) (j:Nat) (hj:j < xs.length),wts (xs.take j)+wt xs[j]≤wts xs
 | x :: xs,0,_=>by simp [wts]
 | x :: xs,j+1,h=>by
   have:=ADM xs j (by simpa using h)
   simp only [qI,wts,List.getElem_cons_succ]; omega
theorem V7 : ∀ (xs:List Ex) (j:Nat),deps (xs.take j)≤wts xs
 | [],j=>by simp [deps,wts]
 | x :: xs,0=>by simp [deps]
 | x :: xs,j+1=>by
   have h1:=V7 xs j
   have h2:=AM5 x
   simp only [qI,deps,wts]; omega
theorem AOF (G:Nat→AV) (c:Nat) (e:Ex):WN e→∀ (h:Hp) (d n dd:Nat) (f:Int) (v1 v2:AV),d+wt e≤549755813888→n+wt e≤549755813888→dd≤1099511627776→St h c n n n dd f v1 v2 →
  ACalls (En G) 148 [.ptr c 0 0,.agg (CV e),.int .i64 (d:Nat)] h fun _ h' => ∃ u1 u2,St h' c (n+(pre e).length) (n+(pre e).length) (n+(pre e).length) (max dd (d+deps e.args)) (UB f (pre e)) u1 u2∧Ch c v1 v2 h u1 u2 h':=by
 induction e using Ex.induct with | h e ih => ?_
 intro hwn h d n dd f v1 v2 hd hn hdd s
 have hw:=hwn.1
 have hnm:e.name.size≤1048576:=hwn.2 e (by rw [pre_eq]; simp)
 have hal:e.args.length≤wts e.args:=VH e.args
 have hwe:=OG e
 have hcl:=CB s.w
 have hbox : ∀ (u1 u2:AV) (H:Hp),Ch c v1 v2 (h ++ [.live 4 [CV e]]) u1 u2 H→H[h.length]? = some (.live 4 [CV e]):=by
  intro u1 u2 H hC
  rw [hC.get h.length (by simp) (by omega) (fun hb => ?_) (fun hb => ?_)]
  ·exact C9 _ _
  ·obtain ⟨_,hx⟩:=s.s1.b hb
   have:=CB hx; omega
  ·obtain ⟨_,hx⟩:=s.s2.b hb
   have:=CB hx; omega
 have lb0 : ∀ H:Hp,H[h.length]? = some (.live 4 [CV e])→DI Tryz.prog H 3 (.ptr h.length 0 0)=some (.int .i64 e.op):=fun H hH=>by rw [DC ag3 hH (row:=CV e) rfl,I8]
 have lb2 : ∀ H:Hp,H[h.length]? = some (.live 4 [CV e])→DI Tryz.prog H 9 (.ptr h.length 0 2)=some (.str e.name):=fun H hH=>by rw [DC ag9 hH (row:=CV e) rfl,OH]
 have lb3 : ∀ H:Hp,H[h.length]? = some (.live 4 [CV e])→DI Tryz.prog H 23 (.ptr h.length 0 3)=some (.sl e.m 4 (e.args.map CV)):=fun H hH=>by rw [DC QP hH (row:=CV e) rfl,RH]
 refine IY (H:=hint [56,85] []) (enM G) Tryz.func148 rfl (by kernel_rfl) (by kernel_rfl) (jH (by kernel_rfl)) ?_
 show awp _ _ _ _ _ (EH _ [] _)
 have s0:=s.app [.live 4 [CV e]]
 have c0:=Ch.app c v1 v2 h [.live 4 [CV e]]
 simp -implicitDefEqProofs only [EI,jP,jQ,jR,jO,BB,A8,A7,AZ,BA,AO,BD,AX,AL,DV,AA,AY,AU,BH,BI,FN,BN,CY,BR,BG,BV,AB,BZ,DZ,BF,CE,↓reduceIte,jA,jI,jG,jB,jC,enP,AIO,ACS,FB,jJ,EK,EY,bxE,s0.l0,wrap_succ (show n < 9223372036854775807 by omega),s0.t0]
 have s1:=s0.set (n+1) dd f
 have c1:=Ch.set c v1 v2 (h ++ [.live 4 [CV e]]) (.live 5 [wRow (n+1) dd f v1 v2])
 clear s0
 generalize (h ++ [ABlk.live 4 [CV e]]).set c (.live 5 [wRow (n+1) dd f v1 v2])=H1 at s1 c1 ⊢
 simp -implicitDefEqProofs only [EI,jP,jQ,jR,jO,BJ,A7,AZ,BA,AO,BD,AX,AL,AA,AY,BR,AB,E8,↓reduceIte,jA,jB,jC,enP,FB,s1.l1]
 refine PH (Md e c d v1 v2 h n n (n+1) (max dd d) f) (fun _ _=>False) (fun hb => ?_) (fun hb => ?_) ?_ (fun _ _ hh=>hh.elim)
 ·simp -implicitDefEqProofs only [EI,jP,jQ,jR,jO,A8,MN,AZ,BA,AO,BD,AX,AL,DV,AA,AY,BI,CY,BG,AB,BZ,BF,CE,↓reduceIte,jA,jG,jB,jC,enP,ACS,FB,jJ,EK,EY,s1.t1]
  refine ⟨rfl,rfl,rfl,v1,v2,?_,c1.trans (Ch.set c _ _ _ _)⟩
  have:max dd d=d:=by simp at hb; omega
  rw [this]
  exact s1.set (n+1) d f
 ·simp -implicitDefEqProofs only [BQ,MN]
  refine ⟨rfl,rfl,rfl,v1,v2,?_,c1⟩
  have:max dd d=dd:=by simp at hb; omega
  rw [this]
  exact s1
 clear s1 c1
 rintro F H ⟨f0,f2,f4,u1,u2,s,hC⟩
 simp -implicitDefEqProofs only [EI,jP,jQ,jR,jO,BB,A8,BJ,A7,AZ,BA,AO,BD,AX,AL,AA,AY,AU,BH,BI,BN,BR,BG,AB,DW,↓reduceIte,jG,jB,jC,enP,V4,FB,EK,EY,f0,s.l2]
 refine PH (Md e c d v1 v2 h n n (n+1) (max dd d) (UB f [e])) (fun _ _=>False) (fun hb => ?_) (fun hb => ?_) ?_ (fun _ _ hh=>hh.elim)
 ·simp -implicitDefEqProofs only [EI,jP,jQ,jR,jO,A8,AZ,AO,BD,AX,AL,AA,AY,BO,BI,BN,BX,BP,AB,jF,jD,jE,↓reduceIte,jA,jB,jC,enP,FB,f0,f2,f4,IU (hbox _ _ _ hC)]
  refine (AI7 G e _ hnm).use ?_
  simp -implicitDefEqProofs only [EI,jP,jQ,jR,jO,MN,AZ,BA,AO,BD,AX,AL,DV,AA,AY,CY,BG,AB,BZ,↓reduceIte,jA,jG,jB,jC,enP,V4,FB,jJ,EK,EY,s.t2,f0,f2,f4]
  refine ⟨f0,f2,f4,u1,u2,?_,hC.trans (Ch.set c _ _ _ _)⟩
  have:UB f [e]=IZ e:=by
   have:f=0:=by simpa using hb
   subst this; rfl
  rw [this]
  exact s.set _ _ _
 ·simp -implicitDefEqProofs only [BQ,MN]
  refine ⟨f0,f2,f4,u1,u2,?_,hC⟩
  have:UB f [e]=f:=by
   have:f≠0:=by simpa using hb
   show (if f=0 then IZ e else f)=f
   rw [if_neg this]
  rw [this]; exact s
 clear f0 f2 f4 s hC
 rintro F H ⟨f0,f2,f4,u1,u2,s,hC⟩
 simp -implicitDefEqProofs only [BB,A7]
 refine EZ (by kernel_rfl) ?_
 have hB:=hbox _ _ _ hC
 refine AN0 (fun F H=>(∃ b,F 47 = .bool b)∧Md e c d v1 v2 h n n (n+1) (max dd d) (UB f [e]) F H) ?_ ?_
 ·cases b2:(e.op == 2)
  ·simp -implicitDefEqProofs only [FD,EI,jP,jQ,jR,jO,DR,CZ,D9,DU,D7,EW,RN,ES,FZ,ED,IJ,DK,CO,AA,EG,AY,AU,BH,BM,CP,DN,BN,BR,BG,AB,DW,↓reduceIte,jA,jK,jI,jB,enP,G8,f0,f2,f4,lb0 _ hB,b2]
   exact ⟨⟨_,rfl⟩,f0,f2,f4,u1,u2,s,hC⟩
  ·obtain ⟨r,hr⟩:=AMH G e.name s.s1 (by omega)
   simp -implicitDefEqProofs only [FD,EI,jP,jQ,jR,jO,DR,CZ,DU,D7,EW,PL,ES,ED,IJ,AQ9,DK,EP,EF,CO,AA,AY,AU,BO,BH,BN,BR,I5,BG,AB,DW,jF,jD,jE,↓reduceIte,jA,jK,jI,jG,jB,enP,G8,L9,AIN,EK,F7,EY,f0,f2,f4,lb0 _ hB,lb2 _ hB,b2,s.l3]
   refine ⟨_,hr,?_⟩
   simp -implicitDefEqProofs only [FD,EI,jP,jQ,jR,jO,DR,CZ,D9,DU,FZ,AA,AY,AU,BM,CP,DL,AB,FP,↓reduceIte,jA,jK,jB,f0,f2,f4]
   exact ⟨⟨_,rfl⟩,f0,f2,f4,u1,u2,s,hC⟩
 clear f0 f2 f4 s hC hB
 rintro F H ⟨⟨b,f47⟩,f0,f2,f4,u1,u2,s,hC⟩
 have hB:=hbox _ _ _ hC
 simp -implicitDefEqProofs only [BJ,A7,AY,f47]
 refine PH (Md e c d v1 v2 h (n+1) n (n+1) (max dd d) (UB f [e])) (fun _ _=>False) (fun hb => ?_) (fun hb => ?_) ?_ (fun _ _ hh=>hh.elim)
 ·obtain ⟨v',H',ha,ht,s',hC'⟩:=s.app3 e.name (by omega)
  refine EZ (by kernel_rfl) ?_
  simp -implicitDefEqProofs only [FD,EU,EN,EI,jP,jQ,jR,jO,DR,CZ,GL,D9,DU,ES,QS,ED,GI,DK,OM,MN,AA,AY,F9,BN,CY,BG,MK,BV,AB,BZ,↓reduceIte,jA,jK,jG,jB,enP,L9,AIN,jJ,EK,F7,EY,f0,f2,f4,lb2 _ hB,s.l3,ANC,ha,ht]
  exact ⟨f0,f2,f4,_,_,s',hC.trans hC'⟩
 ·simp -implicitDefEqProofs only [BQ,MN]
  exact ⟨f0,f2,f4,_,_,s.weak (by omega) (by omega),hC⟩
 clear f0 f2 f4 s hC hB
 rintro F H ⟨f0,f2,f4,u1,u2,s,hC⟩
 have hB:=hbox _ _ _ hC
 simp -implicitDefEqProofs only [BB,A7]
 refine EZ (by kernel_rfl) ?_
 refine AN0 (fun F H=>(∃ b,F 76 = .bool b)∧Md e c d v1 v2 h (n+1) n (n+1) (max dd d) (UB f [e]) F H) ?_ ?_
 ·obtain ⟨r,hr⟩:=AMH G e.name s.s2 (by omega)
  cases b2:(e.op == 3)
  ·cases b3:(e.op == 24)
   ·simp -implicitDefEqProofs only [FD,EI,jP,jQ,jR,jO,DR,CZ,D9,DU,D7,EW,MX,RN,ES,FZ,ED,IJ,DK,CO,AA,EG,AY,AU,BH,BM,CP,DN,BN,BR,BG,AB,DW,↓reduceIte,jA,jK,jI,jB,enP,G8,f0,f2,f4,lb0 _ hB,b2,b3]
    exact ⟨⟨_,rfl⟩,f0,f2,f4,u1,u2,s,hC⟩
   ·simp -implicitDefEqProofs only [FD,EI,jP,jQ,jR,jO,DR,CZ,DU,D7,EW,PL,MX,ES,FZ,ED,IJ,AQ9,DK,EP,EF,CO,AA,AY,AU,BO,BH,BM,CP,DN,BN,BR,I5,BG,AB,DW,jF,jD,jE,↓reduceIte,jA,jK,jI,jG,jB,enP,G8,L9,ACR,EK,F7,EY,f0,f2,f4,lb0 _ hB,lb2 _ hB,b2,b3,s.l4]
    refine ⟨_,hr,?_⟩
    simp -implicitDefEqProofs only [FD,EI,jP,jQ,jR,jO,DR,CZ,D9,DU,FZ,AA,AY,AU,BM,CP,DL,AB,FP,↓reduceIte,jA,jK,jB,f0,f2,f4]
    exact ⟨⟨_,rfl⟩,f0,f2,f4,u1,u2,s,hC⟩
  ·simp -implicitDefEqProofs only [FD,EI,jP,jQ,jR,jO,DR,CZ,DU,D7,EW,PL,PN,ES,FZ,ED,IJ,AQ9,DK,EP,EF,CO,AA,EG,AY,AU,BO,BH,BM,CP,DL,BN,BR,I5,BG,AB,DW,jF,jD,jE,↓reduceIte,jA,jK,jI,jG,jB,enP,G8,L9,ACR,EK,F7,EY,f0,f2,f4,lb0 _ hB,lb2 _ hB,b2,s.l4]
   refine ⟨_,hr,?_⟩
   simp -implicitDefEqProofs only [FD,EI,jP,jQ,jR,jO,DR,CZ,D9,DU,FZ,AA,AY,AU,BM,CP,DL,AB,FP,↓reduceIte,jA,jK,jB,f0,f2,f4]
   exact ⟨⟨_,rfl⟩,f0,f2,f4,u1,u2,s,hC⟩
 clear f0 f2 f4 s hC hB f47
 rintro F H ⟨⟨b,f76⟩,f0,f2,f4,u1,u2,s,hC⟩
 have hB:=hbox _ _ _ hC
 simp -implicitDefEqProofs only [BJ,A7,AY,f76]
 refine PH (Md e c d v1 v2 h (n+1) (n+1) (n+1) (max dd d) (UB f [e])) (fun _ _=>False) (fun hb => ?_) (fun hb => ?_) ?_ (fun _ _ hh=>hh.elim)
 ·obtain ⟨v',H',ha,ht,s',hC'⟩:=s.app4 e.name (by omega)
  refine EZ (by kernel_rfl) ?_
  simp -implicitDefEqProofs only [FD,EU,EN,EI,jP,jQ,jR,jO,Bool.or_true,DR,CZ,GL,D9,DU,ES,QS,ED,GI,DK,OM,MN,AA,AY,F9,BN,CY,BG,MK,BV,AB,BZ,↓reduceIte,jA,jK,jG,jB,enP,L9,ACR,jJ,EK,F7,EY,f0,f2,f4,lb2 _ hB,s.l4,ANC,ha,ht]
  exact ⟨f0,f2,f4,_,_,s',hC.trans hC'⟩
 ·simp -implicitDefEqProofs only [BQ,MN]
  exact ⟨f0,f2,f4,_,_,s.weak (by omega) (by omega),hC⟩
 clear f0 f2 f4 s hC hB f76
 rintro F H ⟨f0,f2,f4,u1,u2,s,hC⟩
 simp -implicitDefEqProofs only [EI,jP,jQ,jR,jO,BB,CJ,A8,A7,AZ,BA,AO,BD,AX,AL,AU,BH,BC,jB,jC,FB]
 refine D8 (fun k F H => ∃ j,k+j=e.args.length∧F 6 = .int .i64 (j:Nat)∧Md e c d v1 v2 h (n+1+(IG (e.args.take j)).length) (n+1+(IG (e.args.take j)).length) (n+1+(IG (e.args.take j)).length) (max dd (d+deps (e.args.take j))) (UB (UB f [e]) (IG (e.args.take j))) F H) e.args.length ⟨0,by simp,rfl,f0,f2,f4,u1,u2,s,hC⟩ ?_
 clear f0 f2 f4 s hC
 rintro k F H ⟨j,hj,f6,f0,f2,f4,u1,u2,s,hC⟩
 have hB:=hbox _ _ _ hC
 simp -implicitDefEqProofs only [EI,jP,jQ,jR,jO,BB,A8,BJ,A7,AZ,BA,AO,BD,AX,AL,AA,AY,BI,BN,BR,BG,FH,AB,DF,↓reduceIte,jA,jG,jB,jC,enP,TZ,JQ,FB,f6,f4,lb3 _ hB,List.length_map]
 refine CS (fun hlt => ?_) (fun hlt => ?_)
 ·have hj':j < e.args.length:=by simpa using hlt
  have hmem:e.args[j]∈e.args:=List.getElem_mem hj'
  have hwa:=TD hmem
  have hpl:(IG (e.args.take j)).length+(pre e.args[j]).length≤wts e.args:=by
   have h1:=AD9 e.args
   have h2:IG e.args=IG (e.args.take j) ++ (pre e.args[j] ++ IG (e.args.drop (j+1))):=by
    rw [← zS,← KA _ _ hj',← MH,List.take_append_drop]
   rw [h2] at h1; simp at h1; omega
  have hsp:(IG (e.args.take j)).length+wt e.args[j]≤wts e.args:=by
   have h1:=AD9 (e.args.take j)
   have h2:=ADM e.args j hj'
   omega
  have hdt:deps (e.args.take j)≤wts e.args:=V7 e.args j
  simp -implicitDefEqProofs only [EI,jP,jQ,jR,jO,BB,CJ,A8,BQ,A7,AZ,AO,BD,AX,AL,AA,AY,AU,BO,BH,BI,BN,BR,BG,CU,BX,BP,AB,DZ,jF,jD,jE,↓reduceIte,jA,jG,jB,jC,enP,QC,JQ,FB,f0,f2,f4,f6,lb3 _ hB,EJ hj',EM MC JU ER hj',wrap_succ (show d < 9223372036854775807 by omega)]
  refine (ih e.args[j] hmem ⟨by omega,fun x hx=>hwn.2 x (by rw [pre_eq]; exact List.mem_cons_of_mem _ (QW hmem x hx))⟩ H (d+1) _ _ _ u1 u2 (by omega) (by omega) (by omega) s).mono ?_
  rintro v H' ⟨w1,w2,s',hC'⟩
  simp -implicitDefEqProofs only [EI,jP,jQ,jR,jO,A8,A7,EO,FK,AZ,BA,AO,BD,AX,AL,AA,AY,AU,BH,BI,BC,BR,AB,DZ,↓reduceIte,jA,jB,jC,enP,FB,f6,wrap_succ (show j < 9223372036854775807 by omega)]
  refine ⟨k - 1,by omega,j+1,by omega,rfl,f0,f2,f4,w1,w2,?_,hC.trans hC'⟩
  rw [KA _ _ hj',ABQ _ _ hj',AE3,zQ]
  have e1:max (max dd (d+deps (e.args.take j))) (d+1+deps e.args[j].args)=max dd (d+max (deps (e.args.take j)) (dep e.args[j])):=by
   rw [AC1]; omega
  rw [e1,Nat.add_assoc (n+1)] at s'
  exact s'
 ·have hj' : ¬ j < e.args.length:=by simpa using hlt
  rw [jY (by omega)] at s
  simp -implicitDefEqProofs only [D6,E5,FY,GG,I7,↓reduceIte]
  refine ⟨u1,u2,?_,c0.trans hC⟩
  have e1:n+1+(IG e.args).length=n+(pre e).length:=by rw [pre_eq]; simp; omega
  have e2:UB (UB f [e]) (IG e.args)=UB f (pre e):=by rw [pre_eq,← AE3]; rfl
  rw [e1,e2] at s
  exact s
theorem AU1:JL Tryz.prog 122 []=some (.agg [.int .i64 0,.int .i64 0,.int .i64 0,.sl .nil 0 [],.sl .nil 0 []]):=by kernel_rfl
theorem AUK (h:Hp):OE h (.agg [.int .i64 0,.int .i64 0,.int .i64 0,.sl .nil 0 [],.sl .nil 0 []])=some (.ptr h.length 0 0,h ++ [.live 5 [wRow 0 0 0 (.sl .nil 0 []) (.sl .nil 0 [])]]):=AI0 rfl
theorem ALS (G:Nat→AV) (e:Ex) (hwn:WN e) (h:Hp) :
  ACalls (En G) 99 [.agg (CV e)] h fun v h' => ∃ c m u1 u2,v = .ptr c 0 0∧St h' c m m (pre e).length (dep e) (errs (pre e)) u1 u2∧∃ x,h'=h ++ x:=by
 refine acN Tryz.func99 rfl ?_
 show awp _ _ _ _ _ (EH _ [.tmp 2] _)
 simp -implicitDefEqProofs only [EU,BB,A8,A7,AZ,BA,AC,AQ,AO,BD,AX,AL,AA,AY,AU,BO,BH,AI3,BI,BC,FN,FO,BN,BX,BP,BV,AB,BF,jF,jD,jE,↓reduceIte,jA,jB,jC,enP,bxE,AU1,AUK,IU (CX (C9 h _))]
 have nb : ∀ b,¬ isB (.sl .nil 0 []) b:=fun b hb=>hb
 have hw:=hwn.1
 refine (AOF G _ e hwn _ 1 0 0 0 (.sl .nil 0 []) (.sl .nil 0 []) (by omega) (by omega) (by omega) ⟨C9 _ _,⟨[],by simp,.inl ⟨rfl,_,rfl⟩⟩,⟨[],by simp,.inl ⟨rfl,_,rfl⟩⟩,fun b hb=>(nb b hb).elim⟩).mono ?_
 rintro v h' ⟨u1,u2,s,hC⟩
 simp -implicitDefEqProofs only [BB,A8,BK,A7,CW,AZ,BA,AC,AQ,AO,BD,AX,AL,AA,AY,BI,BC,↓reduceIte,jA,jB,jC]
 have e1:0+(pre e).length=(pre e).length:=jG _
 have e2:max 0 (1+deps e.args)=dep e:=by rw [AC1]; omega
 rw [e1,e2] at s
 refine ⟨_,_,u1,u2,rfl,s,?_⟩
 have hC2:=((Ch.app (h ++ [ABlk.live 4 [CV e]]).length (.sl .nil 0 []) (.sl .nil 0 []) h [.live 4 [CV e]]).trans (Ch.app _ _ _ _ [.live 5 [wRow 0 0 0 (.sl .nil 0 []) (.sl .nil 0 [])]])).trans hC
 refine Chg.above (c:=(h ++ [ABlk.live 4 [CV e]]).length) ⟨hC2.len,fun b hb hne=>hC2.get b hb hne (nb b) (nb b)⟩ (by simp)
theorem ACT (G:Nat→AV) (e:Ex) (h:Hp) (hw:WN e):PCall (En G) 50 [.agg (CV e)] h (.int .i64 (exE e)):=by
 refine ACalls.pure0 rfl ?_
 refine acN Tryz.func50 rfl ?_
 show awp _ _ _ _ _ (EH _ [.tmp 2] _)
 simp -implicitDefEqProofs only [BB,A8,A7,AZ,BA,AC,AQ,AO,BD,AX,AL,AA,AY,AU,BO,BH,BC,FN,BN,BX,BP,BV,AB,BF,jF,jD,jE,↓reduceIte,jA,jB,jC,enP,bxE,ldE]
 refine (ALS G e hw _).mono ?_
 rintro v h' ⟨c,m,u1,u2,rfl,s,x,rfl⟩
 simp -implicitDefEqProofs only [BB,A8,A7,AZ,BA,BL,BU,CO,AC,AQ,AO,BD,AX,AL,AA,AY,AU,BH,BI,BC,BN,BR,BG,AB,DW,↓reduceIte,jG,jB,jC,enP,V4,EK,EY,s.l2]
 rcases he:(errs (pre e) == 0) with _ | _
 ·simp -implicitDefEqProofs only [BB,A8,BQ,BK,BJ,A7,CW,EC,AZ,BA,BL,BU,CO,I4,UH,AC,AQ,AO,BD,AX,AL,AA,EG,AY,AU,BM,BI,BC,CP,DN,BN,BG,AB,↓reduceIte,jA,jG,jB,jC,enP,V4,EK,EY,s.l2]
  have:errs (pre e)≠0:=by simpa using he
  exact ⟨by unfold exE; rw [if_neg (fun hh=>this hh.1)],_,by rw [zS]⟩
 have he0:errs (pre e)=0:=by simpa using he
 simp -implicitDefEqProofs only [BL,BU,CO,GH,AC,AQ,AO,BD,AX,AL,AA,AY,AU,BH,BI,BN,BR,BG,AB,E8,↓reduceIte,jA,jG,jB,jC,enP,ACS,EK,EY,s.l1]
 refine IK (fun hd => ?_) (fun hd => ?_)
 ·simp -implicitDefEqProofs only [BB,A8,BK,BJ,A7,CQ,CW,DY,AZ,BA,BL,BU,CO,GH,F6,AC,AQ,AO,BD,AX,AL,AA,EG,AY,AU,BH,BM,BC,CP,DL,↓reduceIte,jA,jB,jC,hd]
  exact ⟨by unfold exE; rw [if_pos ⟨he0,.inl (by simp at hd; omega)⟩],_,by rw [zS]⟩
 simp -implicitDefEqProofs only [BJ,A7,AZ,BA,BL,BU,CO,GH,EQ,AC,AQ,AO,BD,AX,AL,AA,AY,AU,BH,BM,BI,CP,DL,DN,BN,BR,BG,AB,E8,↓reduceIte,jA,jI,jB,jC,enP,AIO,EK,EY,hd,s.l0]
 refine CS (fun hn => ?_) (fun hn => ?_)
 ·simp -implicitDefEqProofs only [BB,A8,BK,A7,CQ,CW,AZ,BA,AC,AQ,AO,BD,AX,AL,AA,AU,BH,BC,↓reduceIte,jB,jC]
  exact ⟨by unfold exE; rw [if_pos ⟨he0,.inr (by simp at hn; omega)⟩],_,by rw [zS]⟩
 ·simp -implicitDefEqProofs only [BB,A8,BQ,BK,A7,CW,AZ,BA,AC,AQ,AO,BD,AX,AL,AA,AY,BI,BC,BN,BG,AB,↓reduceIte,jA,jG,jB,jC,enP,V4,EK,EY,s.l2]
  exact ⟨by unfold exE; rw [if_neg (fun hh=>by simp at hn hd; omega)],_,by rw [zS]⟩
theorem AE2 (G:Nat→AV) (e:Ex) (h:Hp) (hw:wt e≤1048576):PCall (En G) 50 [.agg (CV e)] h (.int .i64 (exE e)):=ACT G e h (ANV hw)
end Go.Proofs.YtokehnfjjmpanaaGreatDoor.Cov
