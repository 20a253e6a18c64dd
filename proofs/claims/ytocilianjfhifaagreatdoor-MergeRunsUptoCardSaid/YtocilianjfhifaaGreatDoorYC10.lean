/- Part 10 of the proof (R1, R2, R3, R4, R5, R7, R9); no condition. -/
import Derived.Test.YtocilianjfhifaaGreatDoorYC9
set_option linter.unusedVariables false
namespace Go.Proofs.YtocilianjfhifaaGreatDoor.Rk
open Sm Bins Cov Go.RowKit
open Bool renaming and_eq_true→jV
open List renaming any_eq_true→qH,getD_eq_getElem?_getD→zQ
open Nat renaming lt_or_ge→zM
section
variable {γ:Type} (gs:List γ) (P:Nat->γ->Bool)
def cov (out:List Nat)(x:γ):Bool:=out.any fun i=>P i x
def gain (out:List Nat)(i:Nat):Nat:=gs.countP fun x=>P i x && !cov P out x
theorem AVD {a b:List Nat}(h:∀i∈a,i∈b){x:γ}(hx:cov P a x=true):cov P b x=true:=by
 unfold cov at *;rw[qH] at *;obtain⟨i,hi,hp⟩:=hx;exact⟨i,h i hi,hp⟩
theorem AQ8 {a b:List Nat}(h:∀i∈a,i∈b)(i:Nat):gain gs P b i<=gain gs P a i:=by
 unfold gain;refine List.countP_mono_left fun x _ hx=>?_
 simp only[jV,Bool.not_eq_true'] at *;refine⟨hx.1,?_⟩
 cases hc:cov P a x with
 | false=>rfl
 | true=>rw[AVD P h hc] at hx; cases hx.2
theorem AX4 {a:List Nat}{i:Nat}(h:i∈a):gain gs P a i=0:=by
 unfold gain;rw[List.countP_eq_zero];intro x _ hx;simp only[jV,Bool.not_eq_true'] at hx
 have:cov P a x=true:=by
  unfold cov; rw[qH]; exact⟨i,h,hx.1⟩
 rw[this] at hx; cases hx.2
variable (n:Nat)
def gains (o:List Nat):List Nat:=(List.range o.length).map fun k=>gain gs P (o.take k) (o.getD k 0)
structure Falls (o:List Nat):Prop where
 pos:∀k,k<o.length->1<=gain gs P (o.take k) (o.getD k 0)
 fall:∀k,k+1<o.length->gain gs P (o.take (k+1)) (o.getD (k+1) 0)<=gain gs P (o.take k) (o.getD k 0)
 top:∀k,k<o.length->∀i,i<n->gain gs P (o.take k) i<=gain gs P (o.take k) (o.getD k 0)
 lt:∀i∈o,i<n
 nodup:o.Nodup
theorem UF {o:List Nat}{a k:Nat}(h:k<o.length):(o++[a]).getD k 0=o.getD k 0:=by
 simp only[zQ,List.getElem?_append_left h]
theorem AAP (o:List Nat)(a:Nat):(o++[a]).getD o.length 0=a:=by simp [zQ]
theorem take_left' {o:List Nat}{a k:Nat}(h:k<=o.length):(o++[a]).take k=o.take k:=List.take_append_of_le_length h
theorem Falls.snoc {o:List Nat}(F:Falls gs P n o){a:Nat}(ha:a<n)(hp:gain gs P o a≠0)(ht:∀i,i<n->gain gs P o i<=gain gs P o a):Falls gs P n (o++[a]):=by
 have hlen:(o++[a]).length=o.length+1:=by simp
 have htl:(o++[a]).take o.length=o:=by rw[take_left' (Nat.le_refl _),List.take_length]
 refine⟨fun k hk=>?_,fun k hk=>?_,fun k hk i hi=>?_,fun i hi=>?_,?_⟩
 .rcases zM k o.length with h|h
  .rw[take_left' (by omega),UF h]; exact F.pos k h
  .obtain rfl:k=o.length:=by omega
   rw[htl,AAP]; omega
 .rcases zM (k+1) o.length with h|h
  .rw[take_left' (by omega),take_left' (by omega),UF h,UF (by omega)]; exact F.fall k h
  .have e:k+1=o.length:=by omega
   rw[e,htl,AAP,take_left' (by omega),UF (by omega)];have h1:=F.top k (by omega) a ha;have h2:=AQ8 gs P (a:=o.take k) (b:=o) (fun i hi=>List.mem_of_mem_take hi) a;omega
 .rcases zM k o.length with h|h
  .rw[take_left' (by omega),UF h]; exact F.top k h i hi
  .obtain rfl:k=o.length:=by omega
   rw[htl,AAP]; exact ht i hi
 .rcases List.mem_append.1 hi with h|h
  .exact F.lt i h
  .simp at h; subst h; exact ha
 .rw[List.nodup_append]
  refine⟨F.nodup,by simp,fun x hx y hy e=>?_⟩;simp at hy; subst hy; subst e;exact hp (AX4 gs P hx)
theorem Falls.nil:Falls gs P n []:=⟨fun k h=>by simp at h,fun k h=>by simp at h,fun k h=>by simp at h,fun i h=>(by cases h),List.nodup_nil⟩
def full (x:γ):Bool:=cov P (List.range n) x
def allB (o:List Nat):Bool:=gs.countP (fun x=>full P n x && !cov P o x)==0
end
def hit (v:Cvr)(g:Gl):Bool:=decide (MK v g>0)
def hits (l:List Cvr)(i:Nat)(g:Gl):Bool:=match l[i]? with
 | some v=>hit v g
 | none=>false
def AEL (b:Bool):List AV:=[.bool b]
def row (m:Mo)(v:Cvr):List Bool:=(goals m).map (hit v)
def left (gs:List Gl)(v:Cvr)(k:Nat):List Gl:=(gs.drop k).filter fun g => !hit v g
end Go.Proofs.YtocilianjfhifaaGreatDoor.Rk
set_option linter.unusedSimpArgs false
set_option maxRecDepth 8000
namespace Go.Proofs.YtocilianjfhifaaGreatDoor.Rk
open Sm Bins Cov Go.RowKit
open Bool renaming not_false→jC
open List renaming getElem?_append_left→zX,length_map→jI,map_cons→jD,map_nil→jE
open Nat renaming zero_add→jG,le_of_ble_eq_true→jH,reduceEqDiff→jA
open Option renaming getD_some→jB
def SomeB (E:Env)(f:FuncId)(args:List AV)(h:Hp):Prop:=ACalls E f args h fun v H=>(∃b:Bool,v=.bool b)∧H=h
theorem SomeB.of {E:Env}{f:FuncId}{args:List AV}{h:Hp}(hc:ACalls E f args h fun v H=>(∃b:Bool,v=.bool b)∧ext h H):SomeB E f args h :=
 hc.trunc fun v H hR=>by
  obtain⟨⟨b,rfl⟩,x,rfl⟩:=hR;exact⟨1,h,rfl,fun b hb=>.inr (.inl ⟨by rw[zX hb],by rw[zX hb]⟩),⟨b,rfl⟩,rfl⟩
theorem SomeB.use {E:Env}{f:FuncId}{args:List AV}{h:Hp}{K:AV->Hp->Prop}(hc:SomeB E f args h)(hk:∀b:Bool,K (.bool b) h):ACalls E f args h K :=
 ACalls.mono hc fun v H ⟨⟨b,e⟩,e2⟩=>by rw[e,e2]; exact hk b
structure Reads (H:Hp) (v:AV) (xs:List Bool):Prop where
 ln:LH Tryz.prog 146 v=some (.int .i64 (xs.length:Nat))
 ix:∀k (hk:k<xs.length),∃p,KH 1 H v (.int .i64 (k:Int))=some p∧EH Tryz.prog H 4 p=some (.bool xs[k])
theorem Reads.sl (H:Hp)(s:SM)(xs:List Bool):Reads H (.sl s 1 (xs.map AEL)) xs :=
 ⟨by rw[ATR.1,jI],fun k hk=>⟨_,DU hk,by rw[DF ag4 hk]; rfl⟩⟩
theorem Reads.nil (H:Hp):Reads H (.sl .nil 0 []) []:=⟨by rw[ATR.1]; rfl,fun k hk=>absurd hk (by simp)⟩
theorem A0Z {H:Hp}{b k:Nat}{xs:List Bool}(hb:H[b]?=some (ABlk.live 1 (xs.map AEL)))(hk:k<xs.length):EH Tryz.prog H 4 (.ptr b k 0)=some (.bool xs[k]):=by
 rw[DW ag4 hb (row:=AEL xs[k]) (ND hk)]; rfl
theorem Reads.own {H:Hp}{b:Nat}{xs:List Bool}(hb:H[b]?=some (ABlk.live 1 (xs.map AEL))):Reads H (.own b 0 xs.length) xs :=
 ⟨by rw[ATR.2],fun k hk=>⟨.ptr b k 0,by rw[L6 hb hk,jG],A0Z hb hk⟩⟩
theorem mix_set {α:Type}{f:α->List AV}{os xs:List α}{k:Nat}(hl:os.length=xs.length)(hk:k<os.length):((os.take k++xs.drop k).map f).set k (f os[k])=(os.take (k+1)++xs.drop (k+1)).map f:=by
 rw[List.drop_eq_getElem_cons (show k<xs.length by omega),List.take_succ_eq_append_getElem hk];simp only[List.map_append,jD,jE,List.append_assoc,List.singleton_append];rw[List.set_append_right _ _ (by simp; omega)];simp [Nat.min_eq_left (Nat.le_of_lt hk)]
theorem mix_get {os xs:List Bool}{k:Nat}(hl:os.length=xs.length)(hk:k<xs.length):(os.take k++xs.drop k)[k]?=some xs[k]:=by
 rw[List.getElem?_append_right (by simp; omega)];simp only[List.length_take,Nat.min_eq_left (show k<=os.length by omega),Nat.sub_self];rw[List.getElem?_drop];simp [hk]
theorem mix_len {os xs:List Bool}{k:Nat}(hl:os.length=xs.length)(hk:k<=xs.length):(os.take k++xs.drop k).length=xs.length:=by simp; omega
def AUW (r:List Bool):List AV:=[.sl .any 1 (r.map AEL)]
theorem mkB (h:Hp)(n:Nat)(hn:n<=1048576):I9 Tryz.prog true h 146 (.int .i64 (n:Int)) (.int .i64 (n:Int))=some (.own h.length 0 n,h++[ABlk.live 1 ((List.replicate n false).map AEL)]):=by
 have hz:NV Tryz.prog 4=some [.bool false]:=by kernel_rfl
 have hs:szO Tryz.prog 4=some 1:=by kernel_rfl
 have hb:MZ Tryz.prog 4=some 1:=by kernel_rfl
 have hr:room n 1:=JW (by omega) (by omega);unfold I9;simp only[A1X,hs,hb,hz,Int.toNat_natCast];rw[if_pos ⟨by omega,Int.le_refl _,hr,rfl⟩];simp [AEL]
def opSt (h:Hp)(vs:List (List Bool))(v:AV)(H:Hp):Prop:=(vs=[]∧v=.sl .full 1 [])∨(vs≠[]∧outG 1 AUW h vs v H)
theorem opSt.app {h H:Hp}{vs:List (List Bool)}{v:AV}(hs:opSt h vs v H)(he:ext h H)(hl:vs.length<=1048576)(r:List Bool) :
  ∃v' H',H7 Tryz.prog true H 143 143 v (.sl .full 1 [AUW r])=some (v',H')∧opSt h (vs++[r]) v' H'∧ext h H'∧∀b x,b<h.length->H[b]?=some x->H'[b]?=some x:=by
 have ASE:UR Tryz.prog 146=some 1:=by kernel_rfl
 have AVG:MZ Tryz.prog 146=some 24:=by kernel_rfl
 rcases hs with⟨rfl,rfl⟩|⟨hne,ho⟩
 .refine⟨_,_,WJ AZG AZJ ASE AVG (KO H .full 1 [AUW r]) (by simp) (JW (by simp) (by omega)),.inr ⟨by simp,.inr ⟨by simp,H.length,he.le,by simp,by simp⟩⟩,he.app _,fun b x _ hb=>FX hb⟩
 .obtain⟨v',H',h1,h2,h3,h4,h5,h6,h7⟩:=ho.app2 AZG AZJ ASE AVG (by omega) (by omega) he.le r
  refine⟨v',H',h1,.inr ⟨by simp,h2⟩,h7 h (Nat.le_refl _) he,fun b x hb hx=>h3 b x hx fun hB=>?_⟩;have:=ho.lt hB;omega
theorem opSt.ext {h H:Hp}{vs:List (List Bool)}{v:AV}(hs:opSt h vs v H)(x:Hp):opSt h vs v (H++x):=by
 rcases hs with h1|⟨h1,h2⟩
 .exact .inl h1
 .exact .inr ⟨h1,h2.app x⟩
theorem ACalls.args {E:Env}{f:FuncId}{as1 as2:List AV}{h:Hp}{R:AV->Hp->Prop}(hc:ACalls E f as2 h R)(ha:∀g cargs,AA7 g as1 cargs->AA7 g as2 cargs):ACalls E f as1 h R :=
 ⟨hc.1,fun g w cargs S hr=>hc.2 g w cargs S (ha g cargs hr)⟩
structure ReadsN (H:Hp) (v:AV) (xs:List Nat):Prop where
 ln:LH Tryz.prog 57 v=some (.int .i64 (xs.length:Nat))
 ix:∀k (hk:k<xs.length),∃p,KH 1 H v (.int .i64 (k:Int))=some p∧EH Tryz.prog H 3 p=some (.int .i64 (xs[k]:Nat))
theorem ReadsN.sl (H:Hp)(s:SM)(xs:List Nat):ReadsN H (.sl s 1 (xs.map IG)) xs :=
 ⟨by rw[JA.1,jI],fun k hk=>⟨_,DU hk,by rw[DF ag3 hk]; rfl⟩⟩
theorem ReadsN.nil (H:Hp)(k:Nat):ReadsN H (.sl .nil k []) []:=⟨by rw[JA.1]; rfl,fun k hk=>absurd hk (by simp)⟩
theorem ReadsN.own {H:Hp}{b:Nat}{xs:List Nat}(hb:H[b]?=some (ABlk.live 1 (xs.map IG))):ReadsN H (.own b 0 xs.length) xs :=
 ⟨by rw[JA.2],fun k hk=>⟨.ptr b k 0,by rw[L6 hb hk,jG],by rw[DW ag3 hb (row:=IG xs[k]) (ND hk)]; rfl⟩⟩
def RN (h:Hp)(v:AV)(xs:List Nat):Prop:=(∃s,v=.sl s 1 (xs.map IG))∨(xs=[]∧∃k,v=.sl .nil k [])∨∃b,v=.own b 0 xs.length∧h[b]?=some (ABlk.live 1 (xs.map IG))
theorem RN.up {h H:Hp}{v:AV}{xs:List Nat}(hr:RN h v xs)(he:ext h H):RN H v xs:=by
 rcases hr with h1|h1|⟨b,h1,h2⟩
 .exact .inl h1
 .exact .inr (.inl h1)
 .exact .inr (.inr ⟨b,h1,FP he h2⟩)
theorem RN.reads {h:Hp}{v:AV}{xs:List Nat}(hr:RN h v xs):ReadsN h v xs:=by
 rcases hr with⟨s,rfl⟩|⟨rfl,k,rfl⟩|⟨b,rfl,h2⟩
 .exact ReadsN.sl h s xs
 .exact ReadsN.nil h k
 .exact ReadsN.own h2
theorem RN.out {h H:Hp}{v:AV}{xs:List Nat}(ho:outG 1 IG h xs v H):RN H v xs:=by
 rcases ho with⟨rfl,rfl⟩|⟨_,o,_,rfl,h3⟩
 .exact .inr (.inl ⟨rfl,0,rfl⟩)
 .exact .inr (.inr ⟨o,rfl,h3⟩)
theorem frzCv (xs:List Cvr):PT (xs.map ER)=true:=by
 unfold PT;rw[List.all_eq_true];intro r hr;obtain⟨v,_,rfl⟩:=List.mem_map.1 hr;rfl
def hasB (xs:List Int)(z:Int):Bool:=xs.any fun x=>x==z
theorem AMS (G:Nat->AV)(xs:List Int)(s:SM)(z:Int)(h:Hp)(hn:xs.length<=1048576):∃k:Int,PCall (En G) 176 [.sl s 1 (xs.map encI),.int .i64 z] h (.int .i64 k)∧decide (k≥0)=hasB xs z:=by
 by_cases hb:hasB xs z=true
 .obtain⟨i,hi⟩:∃i,xs.findIdx? (fun x=>x==z)=some i:=by
   cases he:xs.findIdx? (fun x=>x==z) with
   | some i=>exact⟨i,rfl⟩
   | none =>
     rw[List.findIdx?_eq_none_iff] at he;unfold hasB at hb;rw[List.any_eq_true] at hb;obtain⟨x,hx,hz⟩:=hb;rw[he x hx] at hz; cases hz
  refine⟨(i:Int),?_,by rw[hb]; simp⟩;obtain⟨hil,hiz,hbef⟩:=List.findIdx?_eq_some_iff_getElem.1 hi;refine acN Tryz.func176 rfl ?_;show awp _ _ _ _ _ (EN _ [.tmp 4] _);simp -implicitDefEqProofs only[BC,BP,BA,A8,AY,BB,AO,AQ,AL,BD,AX,AC,AA,AZ,AU,BH,BG,A7,D7,AB,BF,↓reduceIte,jA,jB,jC,enP,JA,jI];refine DK (fun n F H=>∃k,n+k=xs.length∧k<=i∧F 0=.sl s 1 (xs.map encI)∧F 1=.int .i64 z∧F 7=.int .i64 (xs.length:Nat)∧F 8=.int .i64 (k:Nat)∧H=h) xs.length ⟨0,by simp,by omega,by simp -implicitDefEqProofs only[AA,BF,↓reduceIte,jA],by simp -implicitDefEqProofs only[AA,BF,BN,↓reduceIte,jA],by simp -implicitDefEqProofs only[AA,↓reduceIte,jA],by simp -implicitDefEqProofs only[AA,↓reduceIte]; rfl,rfl⟩ ?_;rintro n F H ⟨k,hk,hki,f0,f1,f7,f8,rfl⟩;have hk':k<xs.length:=by omega
  have hd:decide (((k:Nat):Int)<((xs.length:Nat):Int))=true:=by simp; omega
  simp -implicitDefEqProofs only[BC,BP,BA,BO,BI,A8,DI,AY,BB,AO,AQ,AL,BD,AX,AC,AA,AZ,BG,A7,BQ,BR,CE,AB,EC,DC,↓reduceIte,jA,jB,jC,enP,JF,f7,f8,hd,f0,f1,DU hk',DF ag3 hk',Cov.encI0];rcases Nat.eq_or_lt_of_le hki with e|hlt
  .subst e
   have hzz:(z==xs[k])=true:=by rw[BEq.comm]; exact hiz
   simp -implicitDefEqProofs only[BC,BA,BK,A8,CP,EG,FQ,CG,DI,AY,BB,AO,AQ,AL,BD,AX,AC,AA,AZ,BG,A7,↓reduceIte,jA,jB,jC,hzz,f8];exact⟨trivial,trivial⟩
  .have hzz:(z==xs[k])=false:=by
    have:=hbef k hlt;rw[BEq.comm]; simpa using this
   simp -implicitDefEqProofs only[BA,BO,A8,EJ,EQ,DT,AY,BB,AO,AQ,AL,BD,AX,AC,AA,AZ,AU,BH,BG,BR,AB,CZ,↓reduceIte,jA,jB,jC,enP,hzz,f8,wrap_succ (show k<9223372036854775807 by omega)];exact⟨n-1,by omega,k+1,by omega,by omega,by trivial,by trivial,by trivial,rfl,trivial⟩
 .have hb':hasB xs z=false:=by simpa using hb
  refine⟨-1,?_,by rw[hb']; decide⟩;refine acN Tryz.func176 rfl ?_;show awp _ _ _ _ _ (EN _ [.tmp 4] _);simp -implicitDefEqProofs only[BC,BP,BA,A8,AY,BB,AO,AQ,AL,BD,AX,AC,AA,AZ,AU,BH,BG,A7,D7,AB,BF,↓reduceIte,jA,jB,jC,enP,JA,jI];refine DK (fun n F H=>∃k,n+k=xs.length∧F 0=.sl s 1 (xs.map encI)∧F 1=.int .i64 z∧F 7=.int .i64 (xs.length:Nat)∧F 8=.int .i64 (k:Nat)∧H=h) xs.length ⟨0,by simp,by simp -implicitDefEqProofs only[AA,BF,↓reduceIte,jA],by simp -implicitDefEqProofs only[AA,BF,BN,↓reduceIte,jA],by simp -implicitDefEqProofs only[AA,↓reduceIte,jA],by simp -implicitDefEqProofs only[AA,↓reduceIte]; rfl,rfl⟩ ?_;rintro n F H ⟨k,hk,f0,f1,f7,f8,rfl⟩;simp -implicitDefEqProofs only[BC,BA,BI,A8,AY,BB,AO,AQ,AL,BD,AX,AC,AA,AZ,BR,AB,DC,↓reduceIte,jB,jC,enP,f7,f8];refine CU (fun hc=>?_) (fun hc=>?_)
  .have hk':k<xs.length:=by simpa using hc
   have hzz:(z==xs[k])=false:=by
    rw[<-Bool.not_eq_true]; intro e;unfold hasB at hb';rw[List.any_eq_false] at hb';exact hb' xs[k] (List.getElem_mem hk') (by rw[BEq.comm]; exact e)
   simp -implicitDefEqProofs only[BC,BP,BA,BO,BI,A8,EJ,EQ,DT,AY,BB,AO,AQ,AL,BD,AX,AC,AA,AZ,AU,BH,BG,A7,BQ,BR,CE,AB,CZ,EC,↓reduceIte,jA,jB,jC,enP,JF,f0,f1,f8,DU hk',DF ag3 hk',Cov.encI0,hzz,wrap_succ (show k<9223372036854775807 by omega)];exact⟨n-1,by omega,k+1,by omega,by trivial,by trivial,f7,rfl,trivial⟩
  .simp -implicitDefEqProofs only[BC,BA,BK,DJ,A8,EI,EW,ET,CG,AY,BB,AO,AQ,AL,BD,AX,AC,AA,AU,BH,A7,↓reduceIte,jB,jC]
   exact⟨trivial,trivial⟩
theorem contains_rank (G:Nat->AV)(xs:List Int)(s:SM)(z:Int)(h:Hp)(hn:xs.length<=1048576):PCall (En G) 118 [.sl s 1 (xs.map encI),.int .i64 z] h (.bool (hasB xs z)):=by
 obtain⟨k,hk,hd⟩:=AMS G xs s z h hn;refine acN Tryz.func118 rfl ?_;show awp _ _ _ _ _ (EN _ [.tmp 4] _);simp -implicitDefEqProofs only[BC,BA,A8,AY,BB,AO,AQ,AL,BD,AX,AC,AA,AZ,AU,BX,BM,BG,A7,CB,BU,BF,BN,jD,jE,List.append_nil,↓reduceIte,jA,jB,jC,enP];refine hk.use ?_;simp -implicitDefEqProofs only[BK,A8,CG,AY,BB,AO,AQ,AL,BD,AX,AC,AA,AZ,AU,BH,A7,BR,AB,G5,↓reduceIte,jB,jC,enP,hd];exact⟨trivial,trivial⟩
end Go.Proofs.YtocilianjfhifaaGreatDoor.Rk
