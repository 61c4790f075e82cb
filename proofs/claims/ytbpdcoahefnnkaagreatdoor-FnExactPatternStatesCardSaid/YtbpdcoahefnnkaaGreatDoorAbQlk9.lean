/- Merged texts (9 of 16) of the proof that ends in Lky: Rp Rb Md St Mu Mv Se Sd Sf Mx My Mz. -/
import Derived.Test.YtbpdcoahefnnkaaGreatDoorAbQlk8
/- Readers of the laws' arguments: processes. -/
namespace Go.Proofs.YtbpdcoahefnnkaaGreatDoor
open Go.ChangeShapes Go.WideShapes Go.ChangeAt Go.RowKit Go.Ab
set_option maxRecDepth 100000
theorem own:ownKnob Tryz.prog.godebug=none:=by kernel_rfl
theorem laidOut:laidOutB Tryz.prog=true:=by kernel_rfl
theorem underBool:Tryz.prog.underlying 4=some .bool:=Tryz.underlying4
end Go.Proofs.YtbpdcoahefnnkaaGreatDoor
/- Readers of the laws' arguments: signatures and bigraphs. -/
namespace Go.Proofs.YtbpdcoahefnnkaaGreatDoor
open Go.ChangeShapes Go.WideShapes Go.ChangeAt Go.RowKit Go.Ab
set_option maxRecDepth 100000
theorem rControl:Reader Tryz.prog 89 Control.cells (fun x=>x.name.length≤9223372036854775807):=by
  have h:=Reader.struct Tryz.underlying89 (n:=3) (by kernel_rfl) (FReader.cons (n:=1) rfl (by kernel_rfl) (Reader.str Tryz.underlying9) (FReader.cons (n:=1) rfl (by kernel_rfl) (Reader.int Tryz.underlying3) (FReader.cons (n:=1) rfl (by kernel_rfl) (Reader.int Tryz.underlying3) (FReader.nil 3))))
  exact h.map (fun p=>⟨p.1,p.2.1,p.2.2.1⟩) (fun p=>rfl) (fun p hp=>hp.1)
theorem rWire:Reader Tryz.prog 130 Wire.cells (fun x=>x.name.length≤9223372036854775807):=by
  have h:=Reader.struct Tryz.underlying130 (n:=2) (by kernel_rfl) (FReader.cons (n:=1) rfl (by kernel_rfl) (Reader.str Tryz.underlying9) (FReader.cons (n:=1) rfl (by kernel_rfl) (Reader.int Tryz.underlying3) (FReader.nil 2)))
  exact h.map (fun p=>⟨p.1,p.2.1⟩) (fun p=>rfl) (fun p hp=>hp.1)
theorem rInts:Reader Tryz.prog 24 (fun l:List Int=>[Ab.encI false l]) (fun l=>l.length≤9223372036854775807∧∀ p ∈ l,I64 p):=
  Reader.slice Tryz.underlying24 (of_decide_eq_true (by kernel_rfl)) (Reader.int Tryz.underlying3)
theorem rStrs:Reader Tryz.prog 25 (fun l:List Str=>[Ab.encS false l]) (fun l=>l.length≤9223372036854775807∧∀ s ∈ l,s.length≤9223372036854775807):=
  Reader.slice Tryz.underlying25 (of_decide_eq_true (by kernel_rfl)) (Reader.str Tryz.underlying9)
theorem rGNode:Reader Tryz.prog 127 (GNode.cells false) (fun x=>x.links.length≤9223372036854775807∧I64 x.parent):=by
  have h:=Reader.struct Tryz.underlying127 (n:=3) (by kernel_rfl) (FReader.cons (n:=1) rfl (by kernel_rfl) (Reader.int Tryz.underlying3) (FReader.cons (n:=1) rfl (by kernel_rfl) (Reader.int Tryz.underlying3) (FReader.cons (n:=1) rfl (by kernel_rfl) rInts (FReader.nil 3))))
  exact h.map (fun p=>⟨p.1,p.2.1,p.2.2.1⟩) (fun p=>rfl) (fun p hp=>⟨hp.2.2.1.1,hp.2.1⟩)
theorem rNodes:Reader Tryz.prog 23 (fun l:List GNode=>[Ab.encN false l]) (fun l=>l.length≤9223372036854775807∧∀ x ∈ l,x.links.length≤9223372036854775807∧I64 x.parent):=
  Reader.slice Tryz.underlying23 (of_decide_eq_true (by kernel_rfl)) rGNode
theorem rWires:Reader Tryz.prog 26 (fun l:List Wire=>[Ab.encW false l]) (fun l=>l.length≤9223372036854775807∧∀ x ∈ l,x.name.length≤9223372036854775807):=
  Reader.slice Tryz.underlying26 (of_decide_eq_true (by kernel_rfl)) rWire
theorem rSig:ArgR Tryz.prog 22 (encSig false) HugeS:=by
  refine ArgR.cell (cell_slice Tryz.underlying22) ?_
  have h:=Reader.slice Tryz.underlying22 (of_decide_eq_true (by kernel_rfl)) rControl
  exact h.map (fun p=>p) (fun p=>rfl) (fun p hp=>⟨hp.1,hp.2⟩)
theorem rBigF:Reader Tryz.prog 28 (Big.cells false) HugeB:=by
  have h:=Reader.struct Tryz.underlying28 (n:=6) (by kernel_rfl) (FReader.cons (n:=1) rfl (by kernel_rfl) (Reader.int Tryz.underlying3) (FReader.cons (n:=1) rfl (by kernel_rfl) rNodes (FReader.cons (n:=1) rfl (by kernel_rfl) rInts
    (FReader.cons (n:=1) rfl (by kernel_rfl) (Reader.int Tryz.underlying3) (FReader.cons (n:=1) rfl (by kernel_rfl) rStrs (FReader.cons (n:=1) rfl (by kernel_rfl) rWires (FReader.nil 6)))))))
  exact h.map (e':=Big.cells false) (ok':=HugeB) (fun p=>⟨p.1,p.2.1,p.2.2.1,p.2.2.2.1,p.2.2.2.2.1,p.2.2.2.2.2.1⟩) (fun p=>rfl) (fun p hp=>by
    obtain⟨_,h1,h2,_,h3,h4,_⟩:=hp
    exact⟨h1.1,fun x hx=>(h1.2 x hx).1,h2.1,h3.1,h3.2,h4.1,h4.2,fun x hx=>(h1.2 x hx).2,h2.2⟩)
theorem rBig:ArgR Tryz.prog 28 (encB false) HugeB:=ArgR.struct Tryz.underlying28 rBigF
end Go.Proofs.YtbpdcoahefnnkaaGreatDoor
/- IsMatch, IsActiveMatch, MatchLinks (statements 12, 14, 16): the laws' own functions on matches, and the laws. -/
namespace Go.Ab.Vg
set_option linter.unusedSimpArgs false
set_option linter.unusedVariables false
abbrev EqB (x:Big):Prop:=x.nodes.length≤1048576∧(∀ z ∈ x.nodes,z.links.length≤1048576)∧x.sites.length≤1048576∧x.outer.length≤1048576∧x.inner.length≤1048576
theorem eqOf {sig:Sig} {b:Big} (h:SmallB sig b):EqB b:=⟨h.nodesLen,h.linksLen,h.sitesLen,h.outerLen,h.innerLen⟩
theorem toOf {sig:Sig} {b:Big} (h:SmallB sig b):toBigraph_pre b:=⟨⟨h.nodesLen,h.linksLen⟩,h.sitesLen,h.outerLen,h.innerLen⟩
theorem bothOf {sig s2:Sig} {b b2:Big} (h:SmallB sig b2) (h2:SmallB s2 b):SmallB sig b:=
  ⟨h.sigLen,h.sigNames,h2.nodesLen,h2.sitesLen,h2.outerLen,h2.innerLen,h2.outerNames,h2.innerNames,h2.linksLen,h2.parents,h2.sites64⟩
theorem szB_le (b:Big) (left:Int) (h:0≤left):szB b left≤left:=by
  unfold szB
  have h1:=szS_le szN b.nodes left h
  split
  · omega
  have h2:=f_le szI b.sites (szS szN b.nodes left) (by omega)
  split
  · omega
  have h3:=szS_le szStr b.outer (szI b.sites (szS szN b.nodes left)) (by omega)
  split
  · omega
  have h4:=szS_le szW b.inner (szS szStr b.outer (szI b.sites (szS szN b.nodes left))) (by omega)
  split<;>omega
theorem sumN_le:∀ {l:List GNode},(∀ x ∈ l,x.links.length≤1048576)→(l.map nodeSize).sum≤1048578 * l.length
  | [],_=>by simp
  | x::l,h=>by
    have h1:=sumN_le (l:=l) fun y hy=>h y (by simp[hy])
    have h2:=h x (by simp)
    simp only[List.map_cons,List.sum_cons,List.length_cons,nodeSize] at h1 ⊢
    omega
theorem markB {b:Big} (h:EqB b) (k:Int) (h0:0≤k) (hk:k≤1125899906842624):markBig_pre b k∧(k≤(markBig b k).2∧(markBig b k).2≤k+2199027449856):=by
  obtain⟨h1,h2,h3,h4,h5⟩:=h
  have hs:=sumN_le h2
  have hb:bigSize b=(b.nodes.map nodeSize).sum+b.sites.length+b.outer.length+2 * b.inner.length:=rfl
  refine⟨⟨h0,h1,h2,h3,h4,h5,by omega⟩,?_⟩
  have p1:=markNodeS_size b.nodes k
  simp only[markBig,markIntS,markStringS,markWireS,markL,p1]
  omega
end Go.Ab.Vg
/- The abstract machine, part St: rules, guards, systems. -/
namespace Go.Ab
structure Guard where
  zone:Int
  neg:Bool
  pattern:Big
  deriving Inhabited,DecidableEq
structure Sys where
  states:List Big
  steps:List (Int × Int × Int)
  deriving Inhabited,DecidableEq
def Sys.cells (t:Bool) (x:Sys):List AVal:=[.list t (x.states.map (Big.cells t)),.list t (x.steps.map intC3)]
theorem old_big (t:Bool) (b:Big):(b.cells t).map old=b.cells false:=by
  have h1:=old_encI t b.sites
  have h2:=old_encN t b.nodes
  have h3:=old_encS t b.outer
  have h4:=old_encW t b.inner
  simp only[encI,encN,encS,encW] at h1 h2 h3 h4
  simp only[Big.cells,encI,encN,encS,encW,List.map_cons,List.map_nil,h1,h2,h3,h4]
  rfl
theorem imm_big (t:Bool) (b:Big):∀ a ∈ b.cells t,Imm a:=by
  intro a ha
  simp only[Big.cells,List.mem_cons,List.not_mem_nil,or_false] at ha
  rcases ha with rfl | rfl | rfl | rfl | rfl | rfl
  · exact .v _
  · exact imm_encN t b.nodes
  · exact imm_encI t b.sites
  · exact .v _
  · exact imm_encS t b.outer
  · exact imm_encW t b.inner
theorem old_nest_Bigraph (t:Bool) (l:List Big):old (.list t (l.map (Big.cells t))) = .list false (l.map (Big.cells false)):=by
  rw[old_list,List.map_map]
  congr 1
  exact List.map_congr_left fun x _=>old_big t x
theorem ArgOk.nest_Bigraph {H:Heap} {n:Nat} (t:Bool) (l:List Big):ArgOk H n (.list t (l.map (Big.cells t))) (.list false (l.map (Big.cells false))):=by
  refine ArgOk.imm' (.list _ _ fun e he a ha=>?_) (old_nest_Bigraph t l)
  obtain⟨x,_,rfl⟩:=List.mem_map.1 he
  exact imm_big t x a ha
theorem flatI3 (l:List (Int × Int × Int)):∀ e ∈ l.map intC3,∀ a ∈ e,flat a=true:=by
  intro e he a ha
  obtain⟨x,_,rfl⟩:=List.mem_map.1 he
  simp only[intC3,List.mem_cons,List.not_mem_nil,or_false] at ha
  rcases ha with rfl | rfl | rfl<;>rfl
section
variable {H:Heap} {n:Nat}
end
end Go.Ab
/- Rules and guards: what makes them valid, and when a guard holds. -/
namespace Go.Ab.Vg
set_option linter.unusedSimpArgs false
set_option linter.unusedVariables false
def mayB (zone:Int) (agent:Big) (m:Match) (x:Int):Bool:=if zone=2 then !(underB agent m.nodes x) else if zone=3 then underB agent m.nodes x && !(hasI m.nodes x) else true
noncomputable def holdsB (g:Guard) (agent:Big) (m:Match):Bool:=((matchesB g.pattern agent).any fun o=>o.nodes.all (mayB g.zone agent m)) != g.neg
noncomputable abbrev holds (g:Guard) (agent:Big) (m:Match):Bool:=holdsB g agent m
end Go.Ab.Vg
/- GuardHolds (statement 24): the law. -/
namespace Go.Ab.Vg
set_option linter.unusedSimpArgs false
set_option linter.unusedVariables false
theorem smallOf {b:Big} {left:Int} (h0:0≤left) (h1:left≤1048576) (hb:¬ szB b left<0) (hh:HugeB b):SmallB [] b:=by
  have e0:szS szC [] left=left:=by
    have:szS szC [] left=(if left - (([]:Sig).length:Int)<0 then -1 else left - (([]:Sig).length:Int)):=by
      unfold szS;split<;>rfl
    rw[this];simp only[List.length_nil];split<;>omega
  exact smallB (left:=left) (by omega) (by omega) (by rw[e0];omega) (by rw[e0];omega) hh
end Go.Ab.Vg
/- The abstract machine, part Se: what is lent to a call by a pointer to a variable, or by a function value. -/
namespace Go.Ab
def EffT (P:Program) (f:FuncId) (args:List AVal) {σ:Type} (W:List Id) (I:σ→Heap→List OwnE→Prop) (s:σ) (M:List OwnE) (Y:σ→AVal→Prop):Prop:=
  ∀ (H:Heap) (n:Nat) (K:List OwnE) (ids:List Id) (E:List OwnE),I s H E→(∀ w ∈ W,w ∉ ids)→Sep H n (M++(E++K)) (W++ids)→CallsA P f args H n fun r H1 n1=>∃ s' E',Y s' r∧I s' H1 E'∧Sep H1 n1 (E'++K) (W++ids)∧(∀ i ∈ ids,H1 i=H i)∧n≤n1
def FrameI {σ:Type} (W:List Id) (I:σ→Heap→List OwnE→Prop):Prop:=∀ s H H' E,I s H E→(∀ w ∈ W,H' w=H w)→I s H' E
def VarI {σ:Type} (sz:Nat) (C:σ→List AVal→List AVal) (E:σ→List AVal→List OwnE) (X:Id) (s:σ) (H:Heap) (L:List OwnE):Prop:=∃ vs,L=E s vs∧H X=some ⟨sz,[C s vs]⟩
theorem VarI.frame {σ:Type} {sz:Nat} {C:σ→List AVal→List AVal} {E:σ→List AVal→List OwnE} {X:Id}:FrameI [X] (VarI sz C E X):=fun _ _ _ _ ⟨vs,h1,h2⟩ h=>⟨vs,h1,(h X (by simp)).trans h2⟩
def PtrS (P:Program) (f:FuncId) (args:AVal→List AVal) {σ:Type} (sz:Nat) (C:σ→List AVal→List AVal) (E:σ→List AVal→List OwnE) (s:σ) (M:List OwnE) (Y:σ→AVal→Prop):Prop:=
  ∀ X:Id,EffT P f (args (.ptr X 1 0 0)) [X] (VarI sz C E X) s M Y
theorem EffT.mono {P:Program} {f:FuncId} {args:List AVal} {σ:Type} {W:List Id} {I:σ→Heap→List OwnE→Prop} {s:σ} {M:List OwnE} {Y Y':σ→AVal→Prop} (hc:EffT P f args W I s M Y) (hy:∀ s' r,Y s' r→Y' s' r):EffT P f args W I s M Y':=fun H n K ids E hi hw hs=>
  CallsA.mono (hc H n K ids E hi hw hs) fun _ _ _ ⟨s',E',h1,h2⟩=>⟨s',E',hy _ _ h1,h2⟩
theorem PtrS.mono {P:Program} {f:FuncId} {args:AVal→List AVal} {σ:Type} {sz:Nat} {C:σ→List AVal→List AVal} {E:σ→List AVal→List OwnE} {s:σ} {M:List OwnE} {Y Y':σ→AVal→Prop} (hc:PtrS P f args sz C E s M Y) (hy:∀ s' r,Y s' r→Y' s' r):PtrS P f args sz C E s M Y':=fun X=>(hc X).mono hy
theorem EffT.of {P:Program} {f:FuncId} {fn:Func} {body:Code} {args:List AVal} {σ:Type} {W:List Id} {I:σ→Heap→List OwnE→Prop} {s:σ} {M:List OwnE} {Y:σ→AVal→Prop} {N:Nat} (hfn:P.funcs[f]?=some fn) (hb:fn.body=some body) (hn:fn.ntmps=N) (hN:args.length≤N)
    (hq:∀ (H0:Heap) (n0:Nat) (K0:List OwnE) (ids0:List Id) (E0:List OwnE),I s H0 E0→(∀ w ∈ W,w ∉ ids0)→Sep H0 n0 (M++(E0++K0)) (W++ids0)→∀ Q:AVal→Heap→Nat→Prop,(∀ r H1 n1 s' E',I s' H1 E'→Sep H1 n1 (E'++K0) (W++ids0)→(∀ i ∈ ids0,H1 i=H0 i)→n0≤n1→Y s' r→Q r H1 n1)→Runs P f N [.code body] (argEnv args) H0 n0 Q) :
    EffT P f args W I s M Y:=fun H n K ids E hi hw hs=>
  CallsA.of hfn hb hn hN fun Q hQ=>hq H n K ids E hi hw hs Q fun r H1 n1 s' E' h1 h2 h3 h4 h5=>hQ r H1 n1 ⟨s',E',h5,h1,h2,h3,h4⟩
theorem PtrS.of {P:Program} {f:FuncId} {fn:Func} {body:Code} {args:AVal→List AVal} {σ:Type} {sz:Nat} {C:σ→List AVal→List AVal} {E:σ→List AVal→List OwnE} {s:σ} {M:List OwnE} {Y:σ→AVal→Prop} {N:Nat} (hfn:P.funcs[f]?=some fn) (hb:fn.body=some body) (hn:fn.ntmps=N) (hN:∀ v,(args v).length≤N)
    (hq:∀ (X:Id) (H0:Heap) (n0:Nat) (vs:List AVal) (K0:List OwnE) (ids0:List Id),H0 X=some ⟨sz,[C s vs]⟩→X ∉ ids0→Sep H0 n0 (M++(E s vs++K0)) (X::ids0)→∀ Q:AVal→Heap→Nat→Prop,(∀ r H1 n1 s' vs',H1 X=some ⟨sz,[C s' vs']⟩→Sep H1 n1 (E s' vs'++K0) (X::ids0)→(∀ i ∈ ids0,H1 i=H0 i)→n0≤n1→Y s' r→Q r H1 n1)→Runs P f N [.code body] (argEnv (args (.ptr X 1 0 0))) H0 n0 Q) :
    PtrS P f args sz C E s M Y:=fun X=>EffT.of hfn hb hn (hN _) fun H0 n0 K0 ids0 E0 hi hw hs Q hQ=>by
  obtain⟨vs,rfl,hm⟩:=hi
  exact hq X H0 n0 vs K0 ids0 hm (hw X (by simp)) hs Q fun r H1 n1 s' vs' h1 h2 h3 h4 h5=>hQ r H1 n1 s' _ ⟨vs',rfl,h1⟩ h2 h3 h4 h5
section
variable {H:Heap} {n:Nat} {K K':List OwnE} {ids:List Id}
theorem Sep.permA (h:K.Perm K'):∀ A:List OwnE,Sep H n (A++K) ids→Sep H n (A++K') ids:=by
  induction h with
  | nil=>exact fun _ h=>h
  | cons x _ ih=>
    intro A h
    have:=ih (A++[x]) (by simpa using h)
    simpa using this
  | swap x y l=>
    intro A h
    have h1:=Sep.front (K1:=A++[y]) (x:=x) (K2:=l) (by simpa using h)
    exact Sep.unfront (K1:=A) (K2:=y::l) (by simpa using h1)
  | trans _ _ ih1 ih2=>exact fun A h=>ih2 A (ih1 A h)
theorem Sep.mid {A B C D:List OwnE} (h:Sep H n (A++(B++(C++D))) ids):Sep H n (A++(C++(B++D))) ids:=Sep.permA (List.perm_append_comm_assoc B C D) A h
theorem Sep.lastsE {R E K0 D:List OwnE} (h:Sep H n (R++(E++(K0++D))) ids):Sep H n (D++(R++(E++K0))) ids:=Sep.swap (K1:=R++(E++K0)) (by simpa using h)
theorem Sep.idm {A B C:List Id} (h:Sep H n K (A++(B++C))):Sep H n K (B++(A++C)):=Sep.sub h fun i hi=>by
  simp only[List.mem_append] at hi ⊢
  rcases hi with h | h | h
  · exact .inr (.inl h)
  · exact .inl h
  · exact .inr (.inr h)
end
section
variable {P:Program} {f:FuncId} {N:Nat} {k:List Item} {Q:AVal→Heap→Nat→Prop} {Ty:Types} {l:List Oper} {ρ:Env} {H:Heap} {n:Nat}
theorem apartW {W A ids0:List Id} {n0:Nat} (h:∀ w ∈ W,w.1<n0) (hd:∀ w ∈ W,w ∉ ids0) (ha:∀ a ∈ A,n0≤a.1):∀ w ∈ W,w ∉ A++ids0:=fun w hw hm=>by
  rcases List.mem_append.1 hm with hm | hm
  · have h1:=h w hw
    have h2:=ha w hm
    omega
  · exact hd w hw hm
theorem SubL.append {as1 bs cs ds:List AVal} (h:SubL as1 bs) (h':SubL cs ds):SubL (as1++cs) (bs++ds):=by
  induction h with
  | nil=>exact h'
  | cons h _ ih=>exact .cons h ih
theorem RunK.callEff (hT:TypesOk P Ty) {d:Option Tmp} {g:Operand} {args:Array Operand} {ats:Array TypeId} {ty:TypeId} {pos:String} {af:Array Edge} {f':FuncId} {ops:List Oper} {xsA ysA caps:List AVal} {σ:Type} {I:σ→Heap→List OwnE→Prop} {s:σ} {Y:σ→AVal→Prop} {M R E K0:List OwnE} {A W B:List Id}
    (h:EffT P f' (ysA++caps) W I s M Y) (hsub:SubL xsA ysA) (hent:Ent P f') (hi:I s H E) (hw:∀ w ∈ W,w ∉ A++B) (hs:Sep H n (M++(R++(E++K0))) (A++(W++B)))
    (hN:ops.all (fun o=>dok N o.dst)=true) (hl:(⟨d,.call ⟨.value g,args,ats⟩,ty,pos,af,none⟩::l:List Oper).all (fun o=>dok N o.dst)=true) (hg:ρ.ev g = .fn (.func f') [] caps) (has:args.toList.map ρ.ev=xsA)
    (hk:∀ r H1 n1 s' E',Y s' r→I s' H1 E'→Sep H1 n1 (R++(E'++K0)) (A++(W++B))→n≤n1→(∀ i ∈ A++B,H1 i=H i)→evalK P f N k Q Ty ops.toArray l (ρ.put d r) H1 n1) :
    RunK P f N k Q ops.toArray (⟨d,.call ⟨.value g,args,ats⟩,ty,pos,af,none⟩::l) ρ H n:=
  RunK.op hT hN hl rfl (OpSem.call (first:=[]) (captured:=caps) (post:=fun r H1 n1=>∃ s' E',Y s' r∧I s' H1 E'∧Sep H1 n1 (E'++(R++K0)) (W++(A++B))∧(∀ i ∈ A++B,H1 i=H i)∧n≤n1) hg hent (by
    rw[has,List.nil_append]
    exact CallsA.sub (hsub.append (.refl caps)) (h H n (R++K0) (A++B) E hi hw (Sep.idm (Sep.mid hs))))) fun r H' n' ⟨s',E',h1,h2,h3,h4,h5⟩=>hk r H' n' s' E' h1 h2 (Sep.idm (Sep.mid (A:=[]) h3)) h5 h4
theorem RunK.callP (hT:TypesOk P Ty) {d:Option Tmp} {g:Operand} {args:Array Operand} {ats:Array TypeId} {ty:TypeId} {pos:String} {af:Array Edge} {f':FuncId} {ops:List Oper} {argf:AVal→List AVal} {as1:List AVal} {σ:Type} {sz:Nat} {C:σ→List AVal→List AVal} {E:σ→List AVal→List OwnE} {s:σ} {M K0:List OwnE} {Y:σ→AVal→Prop} {X:Id} {vs:List AVal} {A B:List Id}
    (h:PtrS P f' argf sz C E s M Y) (hsub:SubL as1 (argf (.ptr X 1 0 0))) (hent:Ent P f') (hm:H X=some ⟨sz,[C s vs]⟩) (hw:X ∉ A++B) (hs:Sep H n (M++(E s vs++K0)) (A++([X]++B)))
    (hN:ops.all (fun o=>dok N o.dst)=true) (hl:(⟨d,.call ⟨.value g,args,ats⟩,ty,pos,af,none⟩::l:List Oper).all (fun o=>dok N o.dst)=true) (hg:ρ.ev g = .fn (.func f') [] []) (has:args.toList.map ρ.ev=as1)
    (hk:∀ r H1 n1 s' vs',Y s' r→H1 X=some ⟨sz,[C s' vs']⟩→Sep H1 n1 (E s' vs'++K0) (A++([X]++B))→n≤n1→(∀ i ∈ A++B,H1 i=H i)→evalK P f N k Q Ty ops.toArray l (ρ.put d r) H1 n1) :
    RunK P f N k Q ops.toArray (⟨d,.call ⟨.value g,args,ats⟩,ty,pos,af,none⟩::l) ρ H n:=
  RunK.callEff (xsA:=as1) (ysA:=argf (.ptr X 1 0 0)) (caps:=[]) (I:=VarI sz C E X) (s:=s) (M:=M) (R:=[]) (E:=E s vs) (K0:=K0) (A:=A) (W:=[X]) (B:=B) (Y:=Y) hT (by simpa using h X) hsub hent ⟨vs,rfl,hm⟩ (by simpa using hw) hs hN hl hg has fun r H1 n1 s' E' h1 h2 h4 h5 h6=>by
    obtain⟨vs',rfl,h3⟩:=h2
    exact hk r H1 n1 s' vs' h1 h3 h4 h5 h6
end
end Go.Ab
/- The abstract machine, part Sd: regions that draw their order, with a chain of operations that turn the heap; all other operations give the same whenever they come. -/
namespace Go.Ab
set_option linter.unusedSectionVars false
set_option linter.unusedVariables false
section
variable (P:Program) (N:Nat) (ops:Array Oper) (Stab:Heap→Nat→Prop) (hard:List Nat)
def lateC (j:Nat):Bool:=(List.range ops.size).all fun k=>hard.contains k || (behind ops k).contains j
def StepF (o:Oper) (s s':AS):Prop:=∃ v,s'=(s.1.put o.dst v,s.2)∧((gok ops o s.1=some true∧∀ H n,Stab H n→OpSem P N o (loc o.op s.1) H n (isV v H n))∨(gok ops o s.1=some false∧v=skv))
def AnyC (R:AS→Prop):Nat→Array Bool→AS→Prop
  | 0,listed,s=>Region.ready .any ops listed=[]∧R s
  | fuel+1,listed,s=>(Region.ready .any ops listed=[]→R s)∧∀ i ∈ Region.ready .any ops listed,∃ o,ops[i]?=some o ∧
      ((i ∉ hard∧Stab s.2.1 s.2.2∧∃ s',StepF P N ops Stab o s s'∧AnyC R fuel (listed.setIfInBounds i true) s') ∨
       (i ∈ hard∧gok ops o s.1=some true∧∃ post:AVal→Heap→Nat→Prop,OpSem P N o (loc o.op s.1) s.2.1 s.2.2 post∧∀ v H' n',post v H' n'→(lateC ops hard i=false→Stab H' n')∧AnyC R fuel (listed.setIfInBounds i true) (s.1.put o.dst v,H',n')))
inductive OrdT where
  | fin
  | stop
  | free (i:Nat) (t:OrdT)
  | hard (i:Nat) (t a:OrdT)
def OrdT.alts:OrdT→List Nat
  | .hard i _ a=>i::a.alts
  | _=>[]
def OrdT.depth:OrdT→Nat
  | .free _ t=>t.depth+1
  | .hard _ t a=>max (t.depth+1) a.depth
  | _=>0
def headT (t:OrdT) (listed:Array Bool):Bool:=match t with
  | .hard _ _ _ => !(Region.ready .any ops listed).isEmpty && (Region.ready .any ops listed).all fun i=>t.alts.contains i
  | .stop=>false
  | _=>true
def lexT:OrdT→Array Bool→Bool
  | .fin,listed=>(Region.ready .any ops listed).isEmpty
  | .stop,_=>true
  | .free i t,listed => !hard.contains i && (Region.ready .any ops listed).contains i && freeD (fun _=>0) ops listed i && headT ops t (listed.setIfInBounds i true) && lexT t (listed.setIfInBounds i true)
  | .hard i t a,listed=>hard.contains i && headT ops t (listed.setIfInBounds i true) && lexT t (listed.setIfInBounds i true) && lexT a listed
def HardT (R':AS→Prop) (i:Nat) (s:AS):Prop:=∃ o,ops[i]?=some o∧gok ops o s.1=some true∧∃ post:AVal→Heap→Nat→Prop,OpSem P N o (loc o.op s.1) s.2.1 s.2.2 post∧∀ v H' n',post v H' n'→(lateC ops hard i=false→Stab H' n')∧R' (s.1.put o.dst v,H',n')
def RunT (R:AS→Prop):OrdT→AS→Prop
  | .fin,s=>R s
  | .stop,_=>True
  | .free i t,s=>∃ o,ops[i]?=some o∧Stab s.2.1 s.2.2∧∃ s',StepF P N ops Stab o s s'∧RunT R t s'
  | .hard i t a,s=>HardT P N ops Stab hard (RunT R t) i s∧RunT R a s
def drawT (t:OrdT):Bool:=headT ops t (Array.replicate ops.size false) && lexT ops hard t (Array.replicate ops.size false) && decide (t.depth≤ops.size)
end
section
variable {P:Program} {N:Nat} {ops:Array Oper} {Stab:Heap→Nat→Prop} {hard:List Nat}
theorem AnyC.first {R:AS→Prop} {i:Nat} {oi:Oper} (hi:ops[i]?=some oi) (hih:i ∉ hard) (hD:∀ j oj,ops[j]?=some oj→j ∈ behind ops i→j ≠ i→∃ e ∈ oj.after,Region.binds .any e=true∧e.on ∈ behind ops i):∀ (fuel:Nat) (listed:Array Bool) (s s':AS),
    (∀ j ∈ behind ops i,listed.getD j true=false)→(∀ j oj,ops[j]?=some oj→j ≠ i→listed.getD j true=false→j ∉ behind ops i→oi.apart ops oj=true) →
    i ∈ Region.ready .any ops listed→Stab s.2.1 s.2.2→StepF P N ops Stab oi s s'→AnyC P N ops Stab hard R fuel (listed.setIfInBounds i true) s'→AnyC P N ops Stab hard R (fuel+1) listed s:=by
  intro fuel
  induction fuel with
  | zero=>
    intro listed s s' _ _ hr hS hst H
    refine⟨fun h=>(by rw[h] at hr;cases hr),fun j hj=>?_⟩
    by_cases hji:j=i
    · subst hji;exact⟨oi,hi,.inl ⟨hih,hS,s',hst,H⟩⟩
    · have:=ready_mono hj hji
      rw[H.1] at this
      cases this
  | succ fuel ih=>
    intro listed s s' hinv hfree hr hS hst H
    refine⟨fun h=>(by rw[h] at hr;cases hr),fun j hj=>?_⟩
    by_cases hji:j=i
    · subst hji;exact⟨oi,hi,.inl ⟨hih,hS,s',hst,H⟩⟩
    · obtain⟨oj,hoj,hbr⟩:=H.2 j (ready_mono hj hji)
      obtain⟨hjun,oj',hoj',hall⟩:=mem_ready.1 hj
      rw[hoj] at hoj'
      cases hoj'
      have hnot:j ∉ behind ops i:=fun hd=>by
        obtain⟨e,he,hb,hed⟩:=hD j oj hoj hd hji
        have h1:=hall e he hb
        have h0:=hinv e.on hed
        rcases Nat.lt_or_ge e.on listed.size with h' | h'
        · simp[h'] at h0 h1;rw[h0] at h1;cases h1
        · simp[Array.getElem?_eq_none h'] at h1
      obtain⟨h1,h2,h3⟩:=Oper.apart_spec (hfree j oj hoj hji hjun hnot)
      have hinv':∀ k ∈ behind ops i,(listed.setIfInBounds j true).getD k true=false:=fun k hk=>by
        have hjk:j ≠ k:=fun he=>hnot (he ▸ hk)
        rw[getD_set_ne true hjk]
        exact hinv k hk
      have hfree':∀ k ok,ops[k]?=some ok→k ≠ i→(listed.setIfInBounds j true).getD k true=false→k ∉ behind ops i→oi.apart ops ok=true:=fun k ok hk hki hun hno=>by
        refine hfree k ok hk hki ?_ hno
        by_cases hjk:j=k
        · subst hjk;exact hjun
        · rw[getD_set_ne true hjk] at hun;exact hun
      obtain⟨v,rfl,hv⟩:=hst
      have lj:∀ v,loc oj.op (s.1.put oi.dst v)=loc oj.op s.1:=fun v=>loc_put (looks_tmps h1)
      have li:∀ v,loc oi.op (s.1.put oj.dst v)=loc oi.op s.1:=fun v=>loc_put (looks_tmps h3)
      have gj:∀ v,gok ops oj (s.1.put oi.dst v)=gok ops oj s.1:=fun v=>gok_put h1
      have gi:∀ v,gok ops oi (s.1.put oj.dst v)=gok ops oi s.1:=fun v=>gok_put h3
      have hvi:∀ u,(gok ops oi (s.1.put oj.dst u)=some true∧∀ H n,Stab H n→OpSem P N oi (loc oi.op (s.1.put oj.dst u)) H n (isV v H n))∨(gok ops oi (s.1.put oj.dst u)=some false∧v=skv):=fun u=>by
        rw[gi,li]
        exact hv
      rcases hbr with ⟨hjh,_,s'',⟨u,rfl,hu⟩,hrest⟩ | ⟨hjh,hgj,post,hoq,hrest⟩
      · simp only[lj,gj] at hu
        refine⟨oj,hoj,.inl ⟨hjh,hS,_,⟨u,rfl,hu⟩,ih (listed.setIfInBounds j true) (s.1.put oj.dst u,s.2) ((s.1.put oj.dst u).put oi.dst v,s.2) hinv' hfree' (ready_mono hr (Ne.symm hji)) hS ⟨v,rfl,hvi u⟩ ?_⟩⟩
        rw[Array.setIfInBounds_comm _ _ hji,← put_comm v u h2]
        exact hrest
      · simp only[lj,gj] at hoq hgj
        refine⟨oj,hoj,.inr ⟨hjh,hgj,post,hoq,fun u H' n' hp=>?_⟩⟩
        obtain⟨hS',hrest'⟩:=hrest u H' n' hp
        refine⟨hS',?_⟩
        have hlate:lateC ops hard j=false:=by
          rw[Bool.eq_false_iff]
          intro hl
          have:=List.all_eq_true.1 hl i (List.mem_range.2 (Array.getElem?_eq_some_iff.1 hi).1)
          simp only[Bool.or_eq_true,List.contains_iff_mem] at this
          exact this.elim hih hnot
        refine ih (listed.setIfInBounds j true) (s.1.put oj.dst u,H',n') ((s.1.put oj.dst u).put oi.dst v,H',n') hinv' hfree' (ready_mono hr (Ne.symm hji)) (hS' hlate) ⟨v,rfl,hvi u⟩ ?_
        rw[Array.setIfInBounds_comm _ _ hji,← put_comm v u h2]
        exact hrest'
theorem RunT.alt {R:AS→Prop} {s:AS} {listed:Array Bool} {j:Nat}:∀ {t:OrdT},RunT P N ops Stab hard R t s→lexT ops hard t listed=true→j ∈ t.alts→j ∈ hard∧∃ t',t'.depth+1≤t.depth∧headT ops t' (listed.setIfInBounds j true)=true∧lexT ops hard t' (listed.setIfInBounds j true)=true∧HardT P N ops Stab hard (RunT P N ops Stab hard R t') j s
  | .hard i t a,h,hl,hj=>by
    simp only[lexT,Bool.and_eq_true,List.contains_iff_mem] at hl
    rcases List.mem_cons.1 hj with rfl | hj
    · exact⟨hl.1.1.1,t,by simp only[OrdT.depth];omega,hl.1.1.2,hl.1.2,h.1⟩
    · obtain⟨h1,t',h2,h3⟩:=RunT.alt (t:=a) h.2 hl.2 hj
      exact⟨h1,t',by simp only[OrdT.depth];omega,h3⟩
  | .fin,_,_,hj=>by cases hj
  | .stop,_,_,hj=>by cases hj
  | .free _ _,_,_,hj=>by cases hj
theorem AnyC.none {R:AS→Prop} {fuel:Nat} {listed:Array Bool} {s:AS} (h:Region.ready .any ops listed=[]) (hR:R s):AnyC P N ops Stab hard R fuel listed s:=by
  cases fuel with
  | zero=>exact⟨h,hR⟩
  | succ fuel=>exact⟨fun _=>hR,fun i hi=>by rw[h] at hi;cases hi⟩
theorem AnyC.lex {R:AS→Prop}:∀ (fuel:Nat) (t:OrdT) (listed:Array Bool) (s:AS),t.depth≤fuel→headT ops t listed=true→lexT ops hard t listed=true→RunT P N ops Stab hard R t s→AnyC P N ops Stab hard R fuel listed s
  | _,.fin,listed,s,_,_,hB,h=>AnyC.none (by simpa[lexT] using hB) h
  | _,.stop,_,_,_,hh,_,_=>by cases hh
  | 0,.free i t,_,_,hd,_,_,_=>by simp[OrdT.depth] at hd
  | fuel+1,.free i t,listed,s,hd,_,hB,⟨o,ho,hS,s',hst,hrest⟩=>by
    simp only[lexT,Bool.and_eq_true,Bool.not_eq_true',List.contains_iff_mem] at hB
    obtain⟨⟨⟨⟨h1,h2⟩,h3⟩,h4⟩,h5⟩:=hB
    obtain⟨f1,f2,f3⟩:=freeD_spec ho h3
    exact AnyC.first ho (by simpa using h1) f1 fuel listed s s' f2 (fun j oj h1 h2 h3 h4=>(f3 j oj h1 h2 h3 h4).1) h2 hS hst (AnyC.lex fuel t _ _ (by simp only[OrdT.depth] at hd;omega) h4 h5 hrest)
  | 0,.hard i t a,_,_,hd,_,_,_=>by simp only[OrdT.depth] at hd;omega
  | fuel+1,.hard i t a,listed,s,hd,hh,hB,h=>by
    simp only[headT,Bool.and_eq_true,Bool.not_eq_true',List.isEmpty_eq_false_iff] at hh
    refine⟨fun h=>absurd h hh.1,fun j hj=>?_⟩
    have hja:j ∈ (OrdT.hard i t a).alts:=by
      have:=List.all_eq_true.1 hh.2 j hj
      simpa using this
    obtain⟨hjh,t',hd',h1,h2,o,ho,hg,post,hop,hrest⟩:=RunT.alt h hB hja
    exact⟨o,ho,.inr ⟨hjh,hg,post,hop,fun v H' n' hp=>⟨(hrest v H' n' hp).1,AnyC.lex fuel t' _ _ (by omega) h1 h2 (hrest v H' n' hp).2⟩⟩⟩
theorem AnyC.sound {R:AS→Prop} (hN:ops.toList.all (fun o=>dok N o.dst)=true) {Q:Exit→Act→World→Prop} {c0:Ctx} (hQ:∀ a c ρ,Keeps c0 c→Good c→RelE N c ρ a→R (ρ,c.H,c.n)→Q .normal a c.w) :
    ∀ (fuel:Nat) (listed:Array Bool) (ρ:Env) (c:Ctx) (a:Act),Keeps c0 c→Good c→RelE N c ρ a→AnyC P N ops Stab hard R fuel listed (ρ,c.H,c.n)→wpAny P .any ops Q fuel listed a c.w
  | 0,_,_,_,_,hk,g,r,h=>⟨h.1,hQ _ _ _ hk g r h.2⟩
  | fuel+1,listed,ρ,c,a,hk,g,r,h=>by
    refine⟨fun h0=>hQ _ _ _ hk g r (h.1 h0),fun i hi=>?_⟩
    obtain⟨o,ho,hbr⟩:=h.2 i hi
    have hd:dok N o.dst=true:=List.all_eq_true.1 hN o (by rw[← Array.getElem?_toList] at ho;exact List.mem_of_getElem? ho)
    unfold wpOp
    simp only[ho]
    rcases hbr with ⟨_,hS,s',⟨v,rfl,⟨hg,hop⟩ | ⟨hg,rfl⟩⟩,hrest⟩ | ⟨_,hg,post,hop,hrest⟩
    · rw[if_pos (wanted_of_gok r hN hg)]
      refine .inl (hop c.H c.n hS c a rfl rfl g (r.loc o.op) _ _ ?_)
      rintro v1 x c' ⟨rfl,hH,hn⟩ hrep hgood hkeep
      exact AnyC.sound hN hQ fuel _ _ c' _ (hk.trans hkeep) hgood ((r.keeps hkeep).put hd hrep) (by rw[hH,hn];exact hrest)
    · rw[if_neg (by rw[wanted_of_gok r hN hg];simp)]
      exact AnyC.sound hN hQ fuel _ _ c _ hk g (r.put hd (.v _)) hrest
    · rw[if_pos (wanted_of_gok r hN hg)]
      refine .inl (hop c a rfl rfl g (r.loc o.op) _ _ ?_)
      rintro v1 x c' hpost hrep hgood hkeep
      exact AnyC.sound hN hQ fuel _ _ c' _ (hk.trans hkeep) hgood ((r.keeps hkeep).put hd hrep) (hrest v1 c'.H c'.n hpost).2
end
section
variable {P:Program} {f:FuncId} {N:Nat} {k:List Item} {ρ:Env} {H:Heap} {n:Nat} {Q:AVal→Heap→Nat→Prop}
def atS (J:Env→Heap→Nat→Prop):AS→Prop:=fun s=>J s.1 s.2.1 s.2.2
theorem Runs.drawC (Stab:Heap→Nat→Prop) (hard:List Nat) (t:OrdT) (J:Env→Heap→Nat→Prop) {id:Nat} {ops:List Oper} (hm:P.follows .mixedOrders=true) (hN:ops.all (fun o=>dok N o.dst)=true) (hB:Ab.drawT ops.toArray hard t=true)
    (h:RunT P N ops.toArray Stab hard (atS J) t (ρ,H,n)) (hR:∀ ρ H n,J ρ H n→Runs P f N k ρ H n Q):Runs P f N (.code (.region id ops.toArray true)::k) ρ H n Q:=by
  intro c a hH hn g r b cs hf hk
  subst hH
  subst hn
  obtain⟨d1,d2⟩:=draw_keeps g
  simp only[Ab.drawT,Bool.and_eq_true,decide_eq_true_eq] at hB
  have hany:=AnyC.lex (P:=P) (N:=N) (Stab:=Stab) (hard:=hard) (ops:=ops.toArray) ops.toArray.size t (Array.replicate ops.toArray.size false) (ρ,c.H,c.n) hB.2 hB.1.1 hB.1.2 h
  have hw:(Code.region id ops.toArray true).wp P (fun e a' w'=>e = .normal∧∃ c' ρ',c'.w=w'∧Keeps c c'∧Good c'∧RelE N c' ρ' a'∧Runs P f N k ρ' c'.H c'.n Q) a c.w:=by
    refine wp_region_any hm ?_
    have:=AnyC.sound (P:=P) (N:=N) (Stab:=Stab) (hard:=hard) (ops:=ops.toArray) (c0:=c) (by simpa using hN) (Q:=fun e a' w'=>e = .normal∧∃ c' ρ',c'.w=w'∧Keeps c c'∧Good c'∧RelE N c' ρ' a'∧Runs P f N k ρ' c'.H c'.n Q)
      (R:=atS J) (fun a' c' ρ' hk' hg' hr' hR'=>⟨rfl,c',ρ',rfl,hk',hg',hr',hR _ _ _ hR'⟩) ops.toArray.size (Array.replicate ops.toArray.size false) ρ { c with w:={ c.w with drawn:=c.w.drawn+1 } } a d1 d2 (r.keeps d1) hany
    simpa using this
  obtain⟨e,a',w',⟨rfl,c',ρ',rfl,hk',hg',hr',hR⟩,harr⟩:=hw b k cs
  obtain⟨x,v,c'',fr,q,hr,hg,hke,hst,rest⟩:=hR c' a' rfl rfl hg' hr' b cs hf hk
  exact⟨x,v,c'',fr,q,hr,hg,hk'.trans hke,Steps.trans harr hst,rest⟩
theorem Runs.seqC (Stab:Heap→Nat→Prop) (hard:List Nat) (t:OrdT) (J:Env→Heap→Nat→Prop) {id:Nat} {ops:List Oper} {y:Code} (hm:P.follows .mixedOrders=true) (hN:ops.all (fun o=>dok N o.dst)=true) (hB:Ab.drawT ops.toArray hard t=true)
    (h:RunT P N ops.toArray Stab hard (atS J) t (ρ,H,n)) (hR:∀ ρ H n,J ρ H n→Runs P f N (.code y::k) ρ H n Q):Runs P f N (.code (.seq (.region id ops.toArray true) y)::k) ρ H n Q:=
  Runs.seq (Runs.drawC Stab hard t J hm hN hB h hR)
end
section
variable {P:Program} {N:Nat} {ops:Array Oper} {Stab:Heap→Nat→Prop} {hard:List Nat} {R:AS→Prop} {ρ:Env} {H:Heap} {n:Nat} {i:Nat} {l:OrdT} {Ty:Types}
theorem RunT.fin {J:Env→Heap→Nat→Prop} (h:J ρ H n):RunT P N ops Stab hard (atS J) .fin (ρ,H,n):=h
theorem RunT.free {o:Oper} (v:AVal) (ho:ops.toList[i]?=some o) (hg:gok ops o ρ=some true) (hS:Stab H n) (hop:∀ H n,Stab H n→OpSem P N o (loc o.op ρ) H n (isV v H n)) (h:RunT P N ops Stab hard R l (ρ.put o.dst v,H,n)):RunT P N ops Stab hard R (.free i l) (ρ,H,n):=
  ⟨o,by rw[← Array.getElem?_toList];exact ho,hS,_,⟨v,rfl,.inl ⟨hg,hop⟩⟩,h⟩
theorem RunT.skip {o:Oper} (ho:ops.toList[i]?=some o) (hg:gok ops o ρ=some false) (hS:Stab H n) (h:RunT P N ops Stab hard R l (ρ.put o.dst skv,H,n)):RunT P N ops Stab hard R (.free i l) (ρ,H,n):=
  ⟨o,by rw[← Array.getElem?_toList];exact ho,hS,_,⟨skv,rfl,.inr ⟨hg,rfl⟩⟩,h⟩
theorem RunT.heavy {o:Oper} (post:AVal→Heap→Nat→Prop) (ho:ops.toList[i]?=some o) (hg:gok ops o ρ=some true) (hop:OpSem P N o (loc o.op ρ) H n post) (h:∀ v H' n',post v H' n'→(lateC ops hard i=false→Stab H' n')∧RunT P N ops Stab hard R l (ρ.put o.dst v,H',n')):HardT P N ops Stab hard (RunT P N ops Stab hard R l) i (ρ,H,n):=
  ⟨o,by rw[← Array.getElem?_toList];exact ho,hg,post,hop,h⟩
theorem RunT.step (hT:TypesOk P Ty) {o:Oper} {v:AVal} {H':Heap} {n':Nat} (ho:ops.toList[i]?=some o) (hg:gok ops o ρ=some true) (hs:stepF Ty o.dst o.op ρ H n=some (v,H',n')) (hS:lateC ops hard i=false→Stab H' n') (h:RunT P N ops Stab hard R l (ρ.put o.dst v,H',n')):HardT P N ops Stab hard (RunT P N ops Stab hard R l) i (ρ,H,n):=
  RunT.heavy (isV v H' n') ho hg (stepF_ok hT (by rw[stepF_loc];exact hs)) (by rintro _ _ _ ⟨rfl,rfl,rfl⟩;exact⟨hS,h⟩)
theorem RunT.same (hT:TypesOk P Ty) {o:Oper} {v:AVal} (ho:ops.toList[i]?=some o) (hg:gok ops o ρ=some true) (hs:stepF Ty o.dst o.op ρ H n=some (v,H,n)) (hS:lateC ops hard i=false→Stab H n) (h:RunT P N ops Stab hard R l (ρ.put o.dst v,H,n)):HardT P N ops Stab hard (RunT P N ops Stab hard R l) i (ρ,H,n):=
  RunT.step hT ho hg hs hS h
theorem loc_argsC {d:Operand} {args:Array Operand} {ats:Array TypeId}:args.toList.map (loc (.call ⟨.value d,args,ats⟩) ρ).ev=args.toList.map ρ.ev∧(loc (.call ⟨.value d,args,ats⟩) ρ).ev d=ρ.ev d:=
  ⟨List.map_congr_left fun x hx=>loc_ev (by simp[Op.operands,Call.operands];exact .inr (by simpa using hx)),loc_ev (by simp[Op.operands,Call.operands])⟩
theorem RunT.callEff {d:Option Tmp} {g:Operand} {args:Array Operand} {ats:Array TypeId} {ty:TypeId} {pos:String} {af:Array Edge} {gu:Option (Nat × Bool)} {f':FuncId} {xsA ysA caps:List AVal} {σ:Type} {I:σ→Heap→List OwnE→Prop} {s:σ} {Y:σ→AVal→Prop} {M R' E K0:List OwnE} {A W B:List Id}
    (ho:ops.toList[i]?=some ⟨d,.call ⟨.value g,args,ats⟩,ty,pos,af,gu⟩) (hgu:gok ops ⟨d,.call ⟨.value g,args,ats⟩,ty,pos,af,gu⟩ ρ=some true) (h:EffT P f' (ysA++caps) W I s M Y) (hsub:SubL xsA ysA) (hent:Ent P f') (hi:I s H E) (hw:∀ w ∈ W,w ∉ A++B) (hs:Sep H n (M++(R'++(E++K0))) (A++(W++B)))
    (hg:ρ.ev g = .fn (.func f') [] caps) (has:args.toList.map ρ.ev=xsA)
    (hk:∀ r H1 n1 s' E',Y s' r→I s' H1 E'→Sep H1 n1 (R'++(E'++K0)) (A++(W++B))→n≤n1→(∀ i ∈ A++B,H1 i=H i)→(lateC ops hard i=false→Stab H1 n1)∧RunT P N ops Stab hard R l (ρ.put d r,H1,n1)) :
    HardT P N ops Stab hard (RunT P N ops Stab hard R l) i (ρ,H,n):=
  RunT.heavy _ ho hgu (OpSem.call (first:=[]) (captured:=caps) (post:=fun r H1 n1=>∃ s' E',Y s' r∧I s' H1 E'∧Sep H1 n1 (E'++(R'++K0)) (W++(A++B))∧(∀ i ∈ A++B,H1 i=H i)∧n≤n1) (by rw[loc_argsC.2];exact hg) hent (by
    rw[loc_argsC.1,has,List.nil_append]
    exact CallsA.sub (hsub.append (.refl caps)) (h H n (R'++K0) (A++B) E hi hw (Sep.idm (Sep.mid hs))))) fun r H' n' ⟨s',E',h1,h2,h3,h4,h5⟩=>hk r H' n' s' E' h1 h2 (Sep.idm (Sep.mid (A:=[]) h3)) h5 h4
theorem RunT.callW {K:List OwnE} {ids:List Id} {d:Option Tmp} {g:Operand} {args:Array Operand} {ats:Array TypeId} {ty:TypeId} {pos:String} {af:Array Edge} {gu:Option (Nat × Bool)} {R':AVal→Prop} {f':FuncId} {as1 args':List AVal} {sh:Sh}
    (ho:ops.toList[i]?=some ⟨d,.call ⟨.value g,args,ats⟩,ty,pos,af,gu⟩) (hgu:gok ops ⟨d,.call ⟨.value g,args,ats⟩,ty,pos,af,gu⟩ ρ=some true) (h:OwnS P f' args' sh R') (hent:Ent P f') (ha:ArgsOk H n as1 args') (hs:Sep H n K ids) (hg:ρ.ev g = .fn (.func f') [] []) (has:args.toList.map ρ.ev=as1)
    (hk:∀ v H1 n1 r,Sep H1 n1 ((sh,v,r)::K) ids→R' r→n≤n1→(∀ i ∈ ids,H1 i=H i)→(lateC ops hard i=false→Stab H1 n1)∧RunT P N ops Stab hard R l (ρ.put d v,H1,n1)) :
    HardT P N ops Stab hard (RunT P N ops Stab hard R l) i (ρ,H,n):=
  RunT.heavy _ ho hgu (OpSem.callW (by rw[loc_argsC.2];exact hg) hent (by rw[loc_argsC.1,has];exact ha) h hs) fun v H' n' ⟨r,h1,h2,h3,h4⟩=>hk v H' n' r h1 h2 h3 h4
theorem RunT.callA {d:Option Tmp} {g:Operand} {args:Array Operand} {ats:Array TypeId} {ty:TypeId} {pos:String} {af:Array Edge} {gu:Option (Nat × Bool)} {v:AVal} {f':FuncId} {as1 args':List AVal}
    (ho:ops.toList[i]?=some ⟨d,.call ⟨.value g,args,ats⟩,ty,pos,af,gu⟩) (hgu:gok ops ⟨d,.call ⟨.value g,args,ats⟩,ty,pos,af,gu⟩ ρ=some true) (h:PureC P f' args' (fun r=>r=v)) (hent:Ent P f') (ha:ArgsOk H n as1 args') (hg:ρ.ev g = .fn (.func f') [] []) (has:args.toList.map ρ.ev=as1)
    (hS:lateC ops hard i=false→Stab H n) (hk:RunT P N ops Stab hard R l (ρ.put d v,H,n)):HardT P N ops Stab hard (RunT P N ops Stab hard R l) i (ρ,H,n):=
  RunT.heavy (isV v H n) ho hgu (OpSem.callD hg hent (has ▸ ha) h) (by rintro _ _ _ ⟨rfl,rfl,rfl⟩;exact⟨hS,hk⟩)
theorem RunT.append (hT:TypesOk P Ty) {d:Nat} {t:TypeId} {j:TI} {s x:Operand} {ty:TypeId} {pos:String} {af:Array Edge} {gu:Option (Nat × Bool)} {v xv:AVal} {l':List Sh} {es:List (List AVal)} {ids:List Id} (K1 K2:List OwnE) (add adds:List (List AVal))
    (ho:ops.toList[i]?=some ⟨some d,.call ⟨.builtin .append,#[s,x],#[t,t]⟩,ty,pos,af,gu⟩) (hgu:gok ops ⟨some d,.call ⟨.builtin .append,#[s,x],#[t,t]⟩,ty,pos,af,gu⟩ ρ=some true) (hsv:ρ.ev s=v) (hxv:ρ.ev x=xv) (h:Sep H n ((.s l',v,.list true es)::(K1++K2)) ids) (hk:kd Ty t = .slice j) (hj:j.size=l'.length) (hz:j.zero.length=j.size∧j.bytes≤131072)
    (hx:srcOf H xv=some add) (ho1:add.all (fun e=>e.all Ab.one1)=true) (hadd:∀ S,Row H (K1.map (·.1)) (K1.map (·.2.1)) (K1.map (·.2.2)) S→rowsP (Row H l') add adds S) (hne:adds ≠ []) (hlen:es.length+adds.length≤1073741824)
    (hc:∀ v' H' n',Sep H' n' ((.s l',v',.list true (es++adds))::K2) ids→(∀ i ∈ ids,H' i=H i)→n≤n'→(lateC ops hard i=false→Stab H' n')∧RunT P N ops Stab hard R l (ρ.put (some d) v',H',n')):HardT P N ops Stab hard (RunT P N ops Stab hard R l) i (ρ,H,n):=by
  obtain⟨v',H',n',h1,h2,h3,h4⟩:=Sep.append (d:=d) h hk hj hz hx ho1 hadd hne hlen
  obtain⟨q1,q2⟩:=hc v' H' n' h2 h3 h4
  refine RunT.step hT ho hgu ?_ q1 q2
  show (if t=t then appendF Ty (some d) t (ρ.ev s) (ρ.ev x) H n else none)=_
  rw[if_pos rfl,hsv,hxv,h1]
theorem RunT.append0 (hT:TypesOk P Ty) {d:Nat} {t:TypeId} {j:TI} {s x:Operand} {ty:TypeId} {pos:String} {af:Array Edge} {gu:Option (Nat × Bool)} {v xv:AVal} {l':List Sh} {es:List (List AVal)} {K:List OwnE} {ids:List Id} (add:List (List AVal))
    (ho:ops.toList[i]?=some ⟨some d,.call ⟨.builtin .append,#[s,x],#[t,t]⟩,ty,pos,af,gu⟩) (hgu:gok ops ⟨some d,.call ⟨.builtin .append,#[s,x],#[t,t]⟩,ty,pos,af,gu⟩ ρ=some true) (hsv:ρ.ev s=v) (hxv:ρ.ev x=xv) (h:Sep H n ((.s l',v,.list true es)::K) ids) (hf:∀ t ∈ l',t = .c) (hk:kd Ty t = .slice j) (hj:j.size=l'.length) (hz:j.zero.length=j.size∧j.bytes≤131072)
    (hx:srcOf H xv=some add) (ho1:∀ e ∈ add,e.length=l'.length∧∀ a ∈ e,Fresh a∧Ab.one1 a=true) (hlen:es.length+add.length≤1073741824)
    (hc:∀ v' H' n',Sep H' n' ((.s l',v',.list true (es++add))::K) ids→(∀ i ∈ ids,H' i=H i)→n≤n'→(lateC ops hard i=false→Stab H' n')∧RunT P N ops Stab hard R l (ρ.put (some d) v',H',n')):HardT P N ops Stab hard (RunT P N ops Stab hard R l) i (ρ,H,n):=by
  obtain⟨v',H',n',h1,h2,h3,h4⟩:=Sep.append0 (d:=d) h hf hk hj hz hx ho1 hlen
  obtain⟨q1,q2⟩:=hc v' H' n' h2 h3 h4
  refine RunT.step hT ho hgu ?_ q1 q2
  show (if t=t then appendF Ty (some d) t (ρ.ev s) (ρ.ev x) H n else none)=_
  rw[if_pos rfl,hsv,hxv,h1]
theorem OpSem.stillD {d:Option Tmp} {g:Operand} {args:Array Operand} {ats:Array TypeId} {ty:TypeId} {pos:String} {af:Array Edge} {gu:Option (Nat × Bool)} {v:AVal} {f':FuncId} {as1:List AVal} (h:StillC P f' as1 H n (fun r=>r=v)) (hent:Ent P f') (hg:ρ.ev g = .fn (.func f') [] []) (has:args.toList.map ρ.ev=as1) :
    OpSem P N ⟨d,.call ⟨.value g,args,ats⟩,ty,pos,af,gu⟩ (loc (.call ⟨.value g,args,ats⟩) ρ) H n (isV v H n):=
  OpSem.call (by rw[loc_argsC.2];exact hg) hent (by rw[loc_argsC.1,has,List.nil_append,List.append_nil];exact h)
theorem OpSem.appendD (hT:TypesOk P Ty) {d:Option Tmp} {ty:TypeId} {pos:String} {af:Array Edge} {gu:Option (Nat × Bool)} {t:TypeId} {s x:Operand} {j:TI} {fr t':Bool} {l m:List Int} (hk:kd Ty t = .slice j) (hz:j.size=1∧j.zero.length=1∧j.bytes≤131072) (hs:ρ.ev s = .clip fr (l.map intV)) (hx:ρ.ev x = .list t' (m.map intC))
    (hne:m ≠ []) (hm:l.length+m.length≤1073741824) :
    OpSem P N ⟨d,.call ⟨.builtin .append,#[s,x],#[t,t]⟩,ty,pos,af,gu⟩ (loc (.call ⟨.builtin .append,#[s,x],#[t,t]⟩) ρ) H n (isV (.list true ((l++m).map intC)) H n):=by
  have e1:(loc (.call ⟨.builtin .append,#[s,x],#[t,t]⟩) ρ).ev s=ρ.ev s:=loc_ev (by simp[Op.operands,Call.operands])
  have e2:(loc (.call ⟨.builtin .append,#[s,x],#[t,t]⟩) ρ).ev x=ρ.ev x:=loc_ev (by simp[Op.operands,Call.operands])
  exact OpSem.appendLI hT hk hz (by rw[e1];exact hs) (by rw[e2];exact hx) hne hm
theorem OpSem.build0 (hT:TypesOk P Ty) {d:Option Tmp} {ty:TypeId} {pos:String} {af:Array Edge} {gu:Option (Nat × Bool)} {t:TypeId} {j:TI} (hk:kd Ty t = .slice j) :
    OpSem P N ⟨d,.buildSlice t 0 #[],ty,pos,af,gu⟩ ρ H n (isV (.list true []) H n):=by
  refine OpSem.of_value fun c a hH hn g r=>?_
  obtain⟨i,e,hi,hd,hj⟩:=kd_slice hk
  have hde:=(hT t i hi).run_desc c.w
  have hsz:=(hT e j hj).run_size c.w
  have hk:=push_keeps g (.cells #[] e)
  refine⟨.list true [],.slice (some ⟨c.w.heap.size,0,none⟩) 0 0,{ c with w:={ c.w with heap:=c.w.heap.push (.cells #[] e) } },?_,⟨rfl,hH,hn⟩,?_,hk.2,hk.1⟩
  · simp[execOp,Instr.buildSlice,hde,hd,hsz,Instr.fill,newRow,range0]
  · exact .list true [] _ 0 0 (fun _ _=>Go.undef) (by simp) (Nat.le_refl _) (by simp) (by simp) (by simp) (by simp)
end
end Go.Ab
/- The abstract machine, part Sf: variables that are never written again: boxes as immutable cells, slices of arrays in them; loops that are unrolled. -/
namespace Go.Ab
set_option linter.unusedSectionVars false
section
variable {P:Program} {N:Nat} {ρ:Env} {H:Heap} {n:Nat} {Ty:Types} {d:Option Tmp} {ty:TypeId} {pos:String} {af:Array Edge} {gu:Option (Nat × Bool)}
theorem OpSem.boxI {k:Nat} {t:TypeId} {x:Operand} {cs:List AVal} (hc:cellsA (ρ.ev x)=some cs):OpSem P N ⟨some k,.box t x,ty,pos,af,gu⟩ ρ H n (isV (.iptr true cs) H n):=by
  refine OpSem.of_value fun c a hH hn g r=>?_
  obtain⟨vs,hvs,hl⟩:=cellsA_ok (r.ev x) hc
  have hk:=push_keeps g (.cells vs.toArray t)
  refine⟨.iptr true cs,.pointer (some ⟨c.w.heap.size,0,none⟩),{ c with w:={ c.w with heap:=c.w.heap.push (.cells vs.toArray t) } },?_,⟨rfl,hH,hn⟩,?_,hk.2,hk.1⟩
  · simp[execOp,Instr.box,newVar,newRow,hvs]
  · refine .iptr true cs _ (fun j=>vs.getD j Go.undef) rfl ?_ (by simp) (fun _=>g.Bsize) (fun j y hy=>?_) (fun j y hy=>?_)
    · rintro⟨id,o,ho,hb⟩
      have:=g.lt ho
      simp only at hb
      omega
    · have hj:=(List.getElem?_eq_some_iff.1 hy).1
      have hlen:=hl.1
      simp only[World.cell?,Array.getElem?_push_size]
      simp[List.getElem?_eq_getElem (show j<vs.length by omega)]
    · have hj:=(List.getElem?_eq_some_iff.1 hy).1
      have hlen:=hl.1
      have hv:vs[j]?=some (vs[j]'(by omega)):=List.getElem?_eq_getElem (by omega)
      have:=(hl.2 _ _ _ hy hv).keeps hk.1
      simpa[hv] using this
theorem OpSem.sliceI (hT:TypesOk P Ty) {t:TypeId} {x:Operand} {len:Nat} {j:TI} {fr:Bool} {cs:List AVal} (hk:kd Ty t = .arr len j) (hj:j.size=1) (hx:ρ.ev x = .iptr fr cs) (hl:cs.length=len) (h0:len ≠ 0) :
    OpSem P N ⟨d,.slice t x none none none,ty,pos,af,gu⟩ ρ H n (isV (.list fr (cs.map fun a=>[a])) H n):=
  OpSem.pure fun c a hH g r=>by
    obtain⟨i,e,hi,hd,hje⟩:=kd_arr hk
    have hde:=(hT t i hi).run_desc c.w
    have hsz:=(hT e j hje).run_size c.w
    have rx:=r.ev x
    rw[hx] at rx
    generalize hvx:a.eval x=vx at rx
    cases rx with
    | iptr fr cs ad cell hs hm hb hf hc h=>
      refine⟨.slice (some ad) len len,?_,?_⟩
      · simp[execOp,Instr.sliceAt,hde,hd,hvx,Instr.sliceBounds,hsz,h0,Instr.sureAddr,Addr.add]
      · have:=Rep.list (c:=c) fr (cs.map fun a=>[a]) ad len 1 (fun i _=>cell i) (fun _=>hs) (by simp[hl]) (fun _=>⟨hm,hb,hf⟩) (fun i e he=>by
            simp only[List.getElem?_map,Option.map_eq_some_iff] at he
            obtain⟨_,_,rfl⟩:=he
            rfl) (fun i e q y he hq=>by
            simp only[List.getElem?_map,Option.map_eq_some_iff] at he
            obtain⟨z,hz,rfl⟩:=he
            cases q with
            | zero=>simpa using hc i z hz
            | succ q=>simp at hq) (fun i e q y he hq=>by
            simp only[List.getElem?_map,Option.map_eq_some_iff] at he
            obtain⟨z,hz,rfl⟩:=he
            cases q with
            | zero=>simp at hq;subst hq;exact h i z hz
            | succ q=>simp at hq)
        simpa[hl] using this
end
section
variable {P:Program} {f:FuncId} {N:Nat} {k:List Item} {Q:AVal→Heap→Nat→Prop} {Ty:Types} {l:List Oper} {ρ:Env} {H:Heap} {n:Nat} {d:Option Tmp} {ty:TypeId} {pos:String} {af:Array Edge}
theorem Runs.seqK (hT:TypesOk P Ty) {id:Nat} {ops:List Oper} {y:Code} (hN:ops.all (fun o=>dok N o.dst)=true) (h:∀ k':List Item,(∀ ρ H n,Runs P f N (.code y::k) ρ H n Q→Runs P f N k' ρ H n Q)→RunK P f N k' Q ops.toArray ops ρ H n) :
    Runs P f N (.code (.seq (.region id ops.toArray false) y)::k) ρ H n Q:=
  Runs.seq (Runs.region (h (.code y::k) fun _ _ _ h=>h))
theorem RunK.ofE (hT:TypesOk P Ty) {ops:List Oper} (hN:ops.all (fun o=>dok N o.dst)=true) (hl:l.all (fun o=>dok N o.dst)=true) (h:evalK P f N k Q Ty ops.toArray l ρ H n):RunK P f N k Q ops.toArray l ρ H n:=evalK_sound (ops:=ops.toArray) hT (by simpa using hN) l ρ H n hl h
theorem RunK.boxK {ops:Array Oper} {q:Nat} {t:TypeId} {x:Operand} (cs:List AVal) (hd:dok N (some q)=true) (hc:cellsA (ρ.ev x)=some cs) (h:RunK P f N k Q ops l (ρ.put (some q) (.iptr true cs)) H n):RunK P f N k Q ops (⟨some q,.box t x,ty,pos,af,none⟩::l) ρ H n:=
  RunO.op rfl hd ((OpSem.boxI hc).mono fun _ _ _ ⟨e1,e2,e3⟩=>by subst e1 e2 e3;exact h)
theorem RunK.boxI (hT:TypesOk P Ty) {ops:List Oper} {q:Nat} {t:TypeId} {x:Operand} {cs:List AVal} (hN:ops.all (fun o=>dok N o.dst)=true) (hl:(⟨some q,.box t x,ty,pos,af,none⟩::l:List Oper).all (fun o=>dok N o.dst)=true) (hc:cellsA (ρ.ev x)=some cs)
    (h:evalK P f N k Q Ty ops.toArray l (ρ.put (some q) (.iptr true cs)) H n):RunK P f N k Q ops.toArray (⟨some q,.box t x,ty,pos,af,none⟩::l) ρ H n:=
  RunK.op hT hN hl rfl (OpSem.boxI hc) fun _ _ _ ⟨e1,e2,e3⟩=>by subst e1 e2 e3;exact h
theorem RunK.sliceI (hT:TypesOk P Ty) {ops:List Oper} {t:TypeId} {x:Operand} {len:Nat} {j:TI} {fr:Bool} {cs:List AVal} (hN:ops.all (fun o=>dok N o.dst)=true) (hl:(⟨d,.slice t x none none none,ty,pos,af,none⟩::l:List Oper).all (fun o=>dok N o.dst)=true) (hk:kd Ty t = .arr len j) (hj:j.size=1) (hx:ρ.ev x = .iptr fr cs) (hcl:cs.length=len) (h0:len ≠ 0)
    (h:evalK P f N k Q Ty ops.toArray l (ρ.put d (.list fr (cs.map fun a=>[a]))) H n):RunK P f N k Q ops.toArray (⟨d,.slice t x none none none,ty,pos,af,none⟩::l) ρ H n:=
  RunK.op hT hN hl rfl (OpSem.sliceI hT hk hj hx hcl h0) fun _ _ _ ⟨e1,e2,e3⟩=>by subst e1 e2 e3;exact h
theorem RunDK.sliceI (hT:TypesOk P Ty) {ops:Array Oper} {t:TypeId} {x:Operand} {len:Nat} {j:TI} {fr:Bool} {cs:List AVal} (hk:kd Ty t = .arr len j) (hj:j.size=1) (hx:ρ.ev x = .iptr fr cs) (hcl:cs.length=len) (h0:len ≠ 0)
    (h:evalD P f N k Q Ty kindOp ops l (ρ.put d (.list fr (cs.map fun a=>[a]))) H n):RunDK P f N k Q kindOp ops (⟨d,.slice t x none none none,ty,pos,af,none⟩::l) ρ H n:=by
  have e:(loc (.slice t x none none none) ρ).ev x=ρ.ev x:=loc_ev (by simp[Op.operands])
  have hop:∀ H n,OpSem P N ⟨d,.slice t x none none none,ty,pos,af,none⟩ (loc (.slice t x none none none) ρ) H n (isV (.list fr (cs.map fun a=>[a])) H n):=fun H n=>OpSem.sliceI hT hk hj (by rw[e];exact hx) hcl h0
  exact⟨(ρ.put d (.list fr (cs.map fun a=>[a])),H,n),.inl ⟨by simp[gok],_,rfl,fun _=>⟨rfl,hop⟩,fun _=>rfl,hop H n⟩,evalD_sound hT kindOp_ok l _ _ _ h⟩
theorem ixa_p {H:Heap} {t:TypeId} {len:Nat} {j:TI} {kk:IntKind} {i:Int} {id:Id} {g idx off:Nat} (hk:kd Ty t = .arr len j) (hi:0≤i∧i<len) (hv:(viewOf H (.ptr id g idx off)).isSome=true) :
    indexAddrF Ty H t (.ptr id g idx off) (.v (.int kk i))=some (.ptr id g idx (off+i.toNat * j.size)):=by
  obtain⟨cs,hcs⟩:=Option.isSome_iff_exists.1 hv
  simp only[indexAddrF,hk,hcs]
  rw[if_pos hi]
  rfl
end
end Go.Ab
/- Systems: what makes them valid; the states with a pattern (statement 29). -/
namespace Go.Ab.Vg
set_option linter.unusedSimpArgs false
set_option linter.unusedVariables false
abbrev isNaN (_:Int):Bool:=false
def isNaN_wp (x:Int) (Z:Bool→Prop):Prop:=
  ∀ c2:Bool,c2=decide (x ≠ x)→Z c2
theorem isNaN_vc (x:Int):isNaN_wp x (fun y=>y=isNaN x):=by
  unfold isNaN_wp
  simp
def cmpI (x y:Int):Int:=if x<y then -1 else if y<x then 1 else 0
def cmpI_wp (x:Int) (y:Int) (Z:Int→Prop):Prop:=
  ∀ r2:Bool,r2=isNaN x→∀ r3:Bool,r3=isNaN y→((r2=true→((r3=true→Z 0)∧(r3=false→Z (-1))))∧(r2=false→((r3=true→Z 1)∧(r3=false→∀ c4:Bool,c4=decide (x<y)→((c4=true→Z (-1))∧(c4=false→∀ c6:Bool,c6=decide (y<x)→((c6=true→Z 1)∧(c6=false→Z 0))))))))
theorem cmpI_vc (x y:Int):cmpI_wp x y (fun z=>z=cmpI x y):=by
  unfold cmpI_wp
  simp only[forall_eq,decide_eq_true_eq,decide_eq_false_iff_not,isNaN]
  refine⟨fun h=>(by cases h),fun _=>⟨fun h=>(by cases h),fun _=>⟨fun h=>by rw[cmpI,if_pos h],fun h=>⟨fun h2=>by rw[cmpI,if_neg h,if_pos h2],fun h2=>by rw[cmpI,if_neg h,if_neg h2]⟩⟩⟩⟩
def cmpL:List Int→List Int→Int
  | [],[]=>0
  | [],_::_ => -1
  | _::_,[]=>1
  | a::l,b::m=>if cmpI a b=0 then cmpL l m else cmpI a b
abbrev cmpL_pre (a b:List Int):Prop:=a.length≤1048576∧b.length≤1048576
def cmpL_wp (s1:List Int) (s2:List Int) (Z:Int→Prop):Prop:=
  ∀ len2:Int,len2=(s1.length:Int)→loopW (σ:=Int) (fun v6 K9=>∀ c10:Bool,c10=decide (v6<len2)→((c10=true→(0≤v6∧v6<s1.length)∧∀ x13:Int,x13=at' s1 v6→∀ len15:Int,len15=(s2.length:Int)→∀ c17:Bool,c17=decide (len15≤v6)→((c17=true→Z 1)∧(c17=false→(0≤v6∧v6<s2.length)∧∀ x20:Int,x20=at' s2 v6→∀ r23:Int,r23=cmpI x13 x20→∀ c24:Bool,c24=decide (r23 ≠ 0)→((c24=true→Z r23)∧(c24=false→(I64 (v6+1))∧∀ v27:Int,v27=v6+1→K9 (v27))))))∧(c10=false→∀ len29:Int,len29=(s1.length:Int)→∀ len31:Int,len31=(s2.length:Int)→∀ c33:Bool,c33=decide (len29<len31)→((c33=true→Z (-1))∧(c33=false→Z 0))))) (0)
theorem cmpL_vc (a b:List Int) (h:cmpL_pre a b):cmpL_wp a b (fun z=>z=cmpL a b):=by
  unfold cmpL_wp
  obtain⟨h1,h2⟩:=h
  simp only[forall_eq,decide_eq_true_eq,decide_eq_false_iff_not]
  refine loopW.up1 a.length (fun i=>i≤b.length∧cmpL (a.drop i) (b.drop i)=cmpL a b) ⟨by omega,rfl⟩ ?_
  rintro i K hi ⟨hib,hI⟩ IH
  refine⟨fun h3=>⟨⟨by omega,by omega⟩,fun h4=>?_,fun h4=>⟨⟨by omega,by omega⟩,fun h5=>?_,fun h5=>⟨by simp only[I64];omega,IH (by omega) ⟨by omega,?_⟩⟩⟩⟩,fun h3=>⟨fun h4=>?_,fun h4=>?_⟩⟩
  · rw[← hI,List.drop_of_length_le (l:=b) (by omega),List.drop_eq_getElem_cons (show i<a.length by omega)];rfl
  · rw[← hI,List.drop_eq_getElem_cons (show i<a.length by omega),List.drop_eq_getElem_cons (show i<b.length by omega)]
    rw[at_lt (show i<a.length by omega),at_lt (show i<b.length by omega)] at h5 ⊢
    simp only[cmpL]
    rw[if_neg h5]
  · rw[← hI,List.drop_eq_getElem_cons (show i<a.length by omega),List.drop_eq_getElem_cons (show i<b.length by omega)]
    rw[at_lt (show i<a.length by omega),at_lt (show i<b.length by omega)] at h5
    simp only[cmpL]
    rw[if_pos (Classical.not_not.1 h5)]
  · rw[← hI,List.drop_of_length_le (l:=a) (by omega),List.drop_eq_getElem_cons (show i<b.length by omega)];rfl
  · rw[← hI,List.drop_of_length_le (l:=a) (by omega),List.drop_of_length_le (l:=b) (by omega)];rfl
abbrev cmp3 (a b:Int × Int × Int):Int:=cmpL [a.1,a.2.1,a.2.2] [b.1,b.2.1,b.2.2]
def cmp3_wp (a:Int × Int × Int) (b:Int × Int × Int) (Z:Int→Prop):Prop:=
  (cmpL_pre [a.1,a.2.1,a.2.2] [b.1,b.2.1,b.2.2])∧∀ r3:Int,r3=cmpL [a.1,a.2.1,a.2.2] [b.1,b.2.1,b.2.2]→Z r3
theorem cmp3_vc (a b:Int × Int × Int):cmp3_wp a b (fun z=>z=cmp3 a b):=by
  unfold cmp3_wp
  simp only[forall_eq]
  exact⟨⟨by simp,by simp⟩,trivial⟩
def before3 (a b:Int × Int × Int):Bool:=if a.1 ≠ b.1 then decide (a.1<b.1) else if a.2.1 ≠ b.2.1 then decide (a.2.1<b.2.1) else decide (a.2.2<b.2.2)
def okStep (n m:Int) (s:Int × Int × Int):Bool:=within s.1 0 (n - 1) && within s.2.1 0 (m - 1) && within s.2.2 0 (n - 1)
def stepsB (l:List (Int × Int × Int)) (n m:Int):Bool:=(List.range l.length).all fun i=>okStep n m (at' l (i:Int)) && (decide (i=0) || before3 (at' l ((i:Int) - 1)) (at' l (i:Int)))
theorem cmp3_neg (a b:Int × Int × Int):before3 a b = !(decide (0≤cmp3 a b)):=by
  obtain⟨a1,a2,a3⟩:=a
  obtain⟨b1,b2,b3⟩:=b
  simp only[before3,cmp3,cmpL,cmpI]
  rw[Bool.eq_iff_iff]
  simp only[Bool.not_eq_true',decide_eq_false_iff_not]
  repeat' split
  all_goals first | (simp only[decide_eq_true_eq];omega) | (exfalso;omega)
theorem steps_no {l:List (Int × Int × Int)} {n m:Int} {i:Nat} (hi:i<l.length) (h:(okStep n m (at' l (i:Int)) && (decide (i=0) || before3 (at' l ((i:Int) - 1)) (at' l (i:Int))))=false):stepsB l n m=false:=by
  rw[stepsB,List.all_eq_false]
  exact⟨i,by simpa using hi,by rw[h];simp⟩
theorem steps_yes {l:List (Int × Int × Int)} {n m:Int} (h:∀ i:Nat,i<l.length→(okStep n m (at' l (i:Int)) && (decide (i=0) || before3 (at' l ((i:Int) - 1)) (at' l (i:Int))))=true):stepsB l n m=true:=by
  rw[stepsB,List.all_eq_true]
  exact fun i hi=>h i (by simpa using hi)
abbrev areSteps (l:List (Int × Int × Int)) (n m:Int):Bool:=stepsB l n m
abbrev areSteps_pre (l:List (Int × Int × Int)) (n m:Int):Prop:=l.length≤1048576∧I64 (n - 1)∧I64 (m - 1)
def areSteps_wp (l:List (Int × Int × Int)) (states:Int) (middle:Int) (Z:Bool→Prop):Prop:=
  ∀ len2:Int,len2=(l.length:Int)→loopW (σ:=Int) (fun v6 K9=>∀ c10:Bool,c10=decide (v6<len2)→((c10=true→(0≤v6∧v6<l.length)∧∀ x13:Int × Int × Int,x13=at' l v6→joinW (fun (J17:Bool→Prop)=>(I64 (states - 1))∧∀ v27:Int,v27=states - 1→∀ r29:Bool,r29=within x13.1 0 v27→((r29=true→(I64 (middle - 1))∧∀ v31:Int,v31=middle - 1→∀ r33:Bool,r33=within x13.2.1 0 v31→((r33=true→(I64 (states - 1))∧∀ v35:Int,v35=states - 1→∀ r38:Bool,r38=within x13.2.2 0 v27→((r38=true→∀ c39:Bool,c39=decide (0<v6)→((c39=true→(I64 (v6 - 1))∧∀ v42:Int,v42=v6 - 1→(0≤v42∧v42<l.length)∧∀ x45:Int × Int × Int,x45=at' l v42→∀ r47:Int,r47=cmp3 (x45.1,x45.2.1,x45.2.2) (x13.1,x13.2.1,x13.2.2)→∀ c48:Bool,c48=decide (0≤r47)→J17 (c48))∧(c39=false→J17 (false))))∧(r38=false→J17 (true))))∧(r33=false→J17 (true))))∧(r29=false→J17 (true)))) (fun b20=>((b20=true→Z false)∧(b20=false→(I64 (v6+1))∧∀ v24:Int,v24=v6+1→K9 (v24)))))∧(c10=false→Z true))) (0)
theorem areSteps_vc (l:List (Int × Int × Int)) (n m:Int) (h:areSteps_pre l n m):areSteps_wp l n m (fun z=>z=areSteps l n m):=by
  unfold areSteps_wp
  obtain⟨h1,h2,h3⟩:=h
  simp only[forall_eq,decide_eq_true_eq,decide_eq_false_iff_not]
  refine loopW.up1 l.length (fun i=>∀ j:Nat,j<i→(okStep n m (at' l (j:Int)) && (decide (j=0) || before3 (at' l ((j:Int) - 1)) (at' l (j:Int))))=true) (fun j hj=>by omega) ?_
  rintro i K hi hI IH
  refine⟨fun h4=>⟨⟨by omega,by omega⟩,fun c=>c = !(okStep n m (at' l (i:Int)) && (decide (i=0) || before3 (at' l ((i:Int) - 1)) (at' l (i:Int)))),⟨h2,fun h5=>⟨h3,fun h6=>⟨h2,fun h7=>⟨fun h8=>⟨by simp only[I64];omega,⟨by omega,by omega⟩,?_⟩,fun h8=>?_⟩,fun h7=>?_⟩,fun h6=>?_⟩,fun h5=>?_⟩,?_⟩,fun h4=>?_⟩
  · rw[okStep,h5,h6,h7,decide_eq_false (show ¬ i=0 by omega),cmp3_neg];simp
  · rw[okStep,h5,h6,h7,decide_eq_true (show i=0 by omega)];rfl
  · rw[okStep,h7];simp
  · rw[okStep,h6];simp
  · rw[okStep,h5];simp
  · rintro _ rfl
    refine⟨fun h5=>(steps_no (i:=i) (by omega) (by simpa only [Bool.not_eq_true'] using h5)).symm,fun h5=>⟨by simp only[I64];omega,IH (by omega) fun j hj=>?_⟩⟩
    rcases Nat.lt_or_ge j i with h6 | h6
    · exact hI j h6
    · rw[show j=i by omega];simpa only [Bool.not_eq_false'] using h5
  · exact (steps_yes fun j hj=>hI j (by omega)).symm
def sysB (x:Sys):Bool:=within (x.states.length:Int) 1 40 && stepsB x.steps x.states.length 6
abbrev isSystem (x:Sys):Bool:=sysB x
abbrev isSystem_pre (x:Sys):Prop:=x.states.length≤1048576∧x.steps.length≤1048576
def isSystem_wp (x:Sys) (Z:Bool→Prop):Prop:=
  joinW (fun (J4:Bool→Prop)=>∀ len10:Int,len10=(x.states.length:Int)→∀ r12:Bool,r12=within len10 1 40→((r12=true→∀ len13:Int,len13=(x.states.length:Int)→(areSteps_pre x.steps len10 6)∧∀ r17:Bool,r17=areSteps x.steps len10 6→J4 (r17))∧(r12=false→J4 (false)))) (fun b7=>Z b7)
theorem isSystem_vc (x:Sys) (h:isSystem_pre x):isSystem_wp x (fun z=>z=isSystem x):=by
  unfold isSystem_wp
  simp only[forall_eq]
  refine⟨fun c=>c=sysB x,⟨fun h1=>⟨⟨h.2,by simp only[I64];omega,by simp only[I64];omega⟩,by rw[sysB,h1];rfl⟩,fun h1=>by rw[sysB,h1];rfl⟩,fun c h=>h⟩
abbrev l10Before (a b:Int × Int × Int):Bool:=before3 a b
def l10Before_wp (a:Int × Int × Int) (b:Int × Int × Int) (Z:Bool→Prop):Prop:=
  ∀ c6:Bool,c6=decide (a.1 ≠ b.1)→((c6=true→∀ c8:Bool,c8=decide (a.1<b.1)→Z c8)∧(c6=false→∀ c14:Bool,c14=decide (a.2.1 ≠ b.2.1)→((c14=true→∀ c16:Bool,c16=decide (a.2.1<b.2.1)→Z c16)∧(c14=false→∀ c21:Bool,c21=decide (a.2.2 ≠ b.2.2)→((c21=true→∀ c24:Bool,c24=decide (a.2.2<b.2.2)→Z c24)∧(c21=false→Z false))))))
theorem l10Before_vc (a b:Int × Int × Int):l10Before_wp a b (fun z=>z=l10Before a b):=by
  unfold l10Before_wp
  simp only[forall_eq,decide_eq_true_eq,decide_eq_false_iff_not,l10Before,before3]
  refine⟨fun h1=>by rw[if_pos h1],fun h1=>⟨fun h2=>by rw[if_neg h1,if_pos h2],fun h2=>⟨fun h3=>by rw[if_neg h1,if_neg h2],fun h3=>by rw[if_neg h1,if_neg h2,decide_eq_false (by omega)]⟩⟩⟩
abbrev l10Good (x:Sys):Bool:=sysB x
abbrev l10Good_pre (x:Sys):Prop:=isSystem_pre x
def l10Good_wp (x:Sys) (Z:Bool→Prop):Prop:=
  ∀ len4:Int,len4=(x.states.length:Int)→loopW (σ:=Int) (fun i8 K11=>∀ len12:Int,len12=(x.steps.length:Int)→∀ c14:Bool,c14=decide (i8<len12)→((c14=true→(0≤i8∧i8<x.steps.length)∧∀ x17:Int × Int × Int,x17=at' x.steps i8→joinW (fun (J21:Bool→Prop)=>(I64 (len4 - 1))∧∀ v31:Int,v31=len4 - 1→∀ r33:Bool,r33=within x17.1 0 v31→((r33=true→∀ r34:Bool,r34=within x17.2.1 0 5→((r34=true→(I64 (len4 - 1))∧∀ v36:Int,v36=len4 - 1→∀ r39:Bool,r39=within x17.2.2 0 v31→((r39=true→∀ c40:Bool,c40=decide (0<i8)→((c40=true→(I64 (i8 - 1))∧∀ v43:Int,v43=i8 - 1→(0≤v43∧v43<x.steps.length)∧∀ x46:Int × Int × Int,x46=at' x.steps v43→∀ r48:Bool,r48=l10Before (x46.1,x46.2.1,x46.2.2) (x17.1,x17.2.1,x17.2.2)→J21 ((!r48)))∧(c40=false→J21 (false))))∧(r39=false→J21 (true))))∧(r34=false→J21 (true))))∧(r33=false→J21 (true)))) (fun b24=>((b24=true→Z false)∧(b24=false→(I64 (i8+1))∧∀ v28:Int,v28=i8+1→K11 (v28)))))∧(c14=false→∀ r49:Bool,r49=within len4 1 40→Z r49))) (0)
theorem l10Good_vc (x:Sys) (h:l10Good_pre x):l10Good_wp x (fun z=>z=l10Good x):=by
  unfold l10Good_wp
  obtain⟨h1,h2⟩:=h
  simp only[forall_eq,decide_eq_true_eq,decide_eq_false_iff_not]
  refine loopW.up1 x.steps.length (fun i=>∀ j:Nat,j<i→(okStep x.states.length 6 (at' x.steps (j:Int)) && (decide (j=0) || before3 (at' x.steps ((j:Int) - 1)) (at' x.steps (j:Int))))=true) (fun j hj=>by omega) ?_
  rintro i K hi hI IH
  refine⟨fun h4=>⟨⟨by omega,by omega⟩,fun c=>c = !(okStep x.states.length 6 (at' x.steps (i:Int)) && (decide (i=0) || before3 (at' x.steps ((i:Int) - 1)) (at' x.steps (i:Int)))),⟨by simp only[I64];omega,fun h5=>⟨fun h6=>⟨by simp only[I64];omega,fun h7=>⟨fun h8=>⟨by simp only[I64];omega,⟨by omega,by omega⟩,?_⟩,fun h8=>?_⟩,fun h7=>?_⟩,fun h6=>?_⟩,fun h5=>?_⟩,?_⟩,fun h4=>?_⟩
  · rw[okStep,h5,show within (at' x.steps (i:Int)).2.1 0 (6 - 1)=true from h6,h7,decide_eq_false (show ¬ i=0 by omega)];simp
  · rw[okStep,h5,show within (at' x.steps (i:Int)).2.1 0 (6 - 1)=true from h6,h7,decide_eq_true (show i=0 by omega)];rfl
  · rw[okStep,h7];simp
  · rw[okStep,show within (at' x.steps (i:Int)).2.1 0 (6 - 1)=false from h6];simp
  · rw[okStep,h5];simp
  · rintro _ rfl
    refine⟨fun h5=>?_,fun h5=>⟨by simp only[I64];omega,IH (by omega) fun j hj=>?_⟩⟩
    · rw[l10Good,sysB,steps_no (i:=i) (by omega) (by simpa only [Bool.not_eq_true'] using h5)];simp
    rcases Nat.lt_or_ge j i with h6 | h6
    · exact hI j h6
    · rw[show j=i by omega];simpa only [Bool.not_eq_false'] using h5
  · rw[l10Good,sysB,steps_yes fun j hj=>hI j (by omega)];simp
abbrev toBigraphS (l:List Big):List Big:=l
abbrev toBigraphS_pre (l:List Big):Prop:=l.length≤1048576∧∀ b ∈ l,toBigraph_pre b
def toBigraphS_wp (a:List Big) (Z:(List Big)→Prop):Prop:=
  ∀ len2:Int,len2=(a.length:Int)→(0≤len2∧len2≤1073741824)∧∀ l5:List Big,l5=List.replicate len2.toNat default→loopW (σ:=Int × (List Big)) (fun (i16,l17) K21=>∀ len22:Int,len22=(a.length:Int)→∀ c24:Bool,c24=decide (i16<len22)→((c24=true→(0≤i16∧i16<a.length)∧∀ x27:Big,x27=at' a i16→(toBigraph_pre x27)∧∀ r30:Big,r30=toBigraph x27→(0≤i16∧i16<l17.length)∧∀ x50:Big,x50=at' l17 i16→∀ l72:List Big,l72=l17.set i16.toNat r30→(I64 (i16+1))∧∀ v79:Int,v79=i16+1→K21 (v79,l72))∧(c24=false→Z l17))) (0,l5)
theorem toBigraphS_vc (l:List Big) (h:toBigraphS_pre l):toBigraphS_wp l (fun z=>z=toBigraphS l):=by
  unfold toBigraphS_wp
  obtain⟨h,h'⟩:=h
  simp only[forall_eq,Int.toNat_natCast]
  refine⟨by omega,loopW.upL l.length (fun k out=>out=filled l k) _ (filled_zero l).symm ?_⟩
  rintro k out K hk rfl IH
  have hl:=filled_len hk
  simp only[decide_eq_true_eq,decide_eq_false_iff_not,I64,Int.toNat_natCast]
  refine⟨fun h1=>⟨by omega,h' _ (at_mem ⟨by omega,by omega⟩),by omega,by omega,IH (by omega) _ (filled_set (by omega))⟩,fun h1=>?_⟩
  rw[show k=l.length by omega]
  exact filled_end l
abbrev toIntA3 (x:Int × Int × Int):Int × Int × Int:=x
def toIntA3_wp (a:Int × Int × Int) (Z:(Int × Int × Int)→Prop):Prop:=
  Z (a.1,a.2.1,a.2.2)
theorem toIntA3_vc (x:Int × Int × Int):toIntA3_wp x (fun z=>z=toIntA3 x):=by
  unfold toIntA3_wp
  trivial
abbrev toIntA3S (l:List (Int × Int × Int)):List (Int × Int × Int):=l
abbrev toIntA3S_pre (l:List (Int × Int × Int)):Prop:=l.length≤1048576
def toIntA3S_wp (a:List (Int × Int × Int)) (Z:(List (Int × Int × Int))→Prop):Prop:=
  ∀ len2:Int,len2=(a.length:Int)→(0≤len2∧len2≤1073741824)∧∀ l5:List (Int × Int × Int),l5=List.replicate len2.toNat default→loopW (σ:=Int × (List (Int × Int × Int))) (fun (i16,l17) K21=>∀ len22:Int,len22=(a.length:Int)→∀ c24:Bool,c24=decide (i16<len22)→((c24=true→(0≤i16∧i16<a.length)∧∀ x27:Int × Int × Int,x27=at' a i16→∀ r29:Int × Int × Int,r29=toIntA3 (x27.1,x27.2.1,x27.2.2)→(0≤i16∧i16<l17.length)∧∀ x35:Int × Int × Int,x35=at' l17 i16→∀ l38:List (Int × Int × Int),l38=l17.set i16.toNat (r29.1,r29.2.1,r29.2.2)→(I64 (i16+1))∧∀ v45:Int,v45=i16+1→K21 (v45,l38))∧(c24=false→Z l17))) (0,l5)
theorem toIntA3S_vc (l:List (Int × Int × Int)) (h:toIntA3S_pre l):toIntA3S_wp l (fun z=>z=toIntA3S l):=by
  unfold toIntA3S_wp
  simp only[forall_eq,Int.toNat_natCast]
  refine⟨by omega,loopW.upL l.length (fun k out=>out=filled l k) _ (filled_zero l).symm ?_⟩
  rintro k out K hk rfl IH
  have hl:=filled_len hk
  simp only[decide_eq_true_eq,decide_eq_false_iff_not,I64,Int.toNat_natCast]
  refine⟨fun h1=>⟨by omega,by omega,by omega,IH (by omega) _ (filled_set (by omega))⟩,fun h1=>?_⟩
  rw[show k=l.length by omega]
  exact filled_end l
abbrev toSystem (x:Sys):Sys:=x
abbrev toSystem_pre (x:Sys):Prop:=toBigraphS_pre x.states∧toIntA3S_pre x.steps
def toSystem_wp (a:Sys) (Z:Sys→Prop):Prop:=
  (toBigraphS_pre a.states)∧∀ r8:List Big,r8=toBigraphS a.states→(toIntA3S_pre a.steps)∧∀ r20:List (Int × Int × Int),r20=toIntA3S a.steps→Z (Sys.mk r8 r20)
theorem toSystem_vc (x:Sys) (h:toSystem_pre x):toSystem_wp x (fun z=>z=toSystem x):=by
  unfold toSystem_wp
  simp only[forall_eq]
  exact⟨h.1,h.2,trivial⟩
abbrev HugeY (x:Sys):Prop:=(x.states.length≤9223372036854775807∧∀ b ∈ x.states,HugeB b)∧x.steps.length≤9223372036854775807
instance:SzF szB:=⟨fun x left h=>szB_le x left h⟩
abbrev szBs (l:List Big) (left:Int):Int:=szS szB l left
abbrev szBs_pre (l:List Big) (left:Int):Prop:=(0≤left∧left≤1048576)∧l.length≤9223372036854775807∧∀ b ∈ l,HugeB b
def szBs_wp (a:List Big) (left:Int) (Z:Int→Prop):Prop:=
  ∀ len2:Int,len2=(a.length:Int)→(I64 (left - len2))∧∀ v5:Int,v5=left - len2→∀ c7:Bool,c7=decide (v5<0)→((c7=true→Z (-1))∧(c7=false→loopW (σ:=Int × Int) (fun (left12,i13) K16=>∀ len17:Int,len17=(a.length:Int)→∀ c19:Bool,c19=decide (i13<len17)→((c19=true→(0≤i13∧i13<a.length)∧∀ x22:Big,x22=at' a i13→(((0:Int)≤left12∧(left12:Int)≤1048576)∧HugeB x22)∧∀ r25:Int,r25=szB x22 left12→∀ c26:Bool,c26=decide (r25<0)→((c26=true→Z (-1))∧(c26=false→(I64 (i13+1))∧∀ v29:Int,v29=i13+1→K16 (r25,v29))))∧(c19=false→Z left12))) (v5,0)))
theorem szBs_vc (l:List Big) (left:Int) (h:szBs_pre l left):szBs_wp l left (fun z=>z=szBs l left):=by
  unfold szBs_wp
  obtain⟨⟨h0,h1⟩,h2,h3⟩:=h
  simp only[forall_eq,decide_eq_true_eq,decide_eq_false_iff_not]
  refine⟨by simp only[I64];omega,fun h4=>by rw[szBs,szS,if_pos h4],fun h4=>?_⟩
  refine loopW.upR l.length (fun i t=>0≤t∧t≤1048576∧szL szB (l.drop i) t=szL szB l (left - l.length)) _ ⟨by omega,by omega,rfl⟩ ?_
  rintro i t K hi ⟨ht,ht2,hI⟩ IH
  refine⟨fun h5=>⟨⟨by omega,by omega⟩,⟨⟨ht,ht2⟩,h3 _ (at_mem ⟨by omega,by omega⟩)⟩,fun h6=>?_,fun h6=>⟨by simp only[I64];omega,?_⟩⟩,fun h5=>?_⟩
  · rw[at_lt (show i<l.length by omega)] at h6
    rw[szBs,szS,if_neg h4,← hI,List.drop_eq_getElem_cons (show i<l.length by omega),szL,if_pos h6]
  · have h6:¬ szB (at' l (i:Int)) t<0:=h6
    have hle:=szB_le (at' l (i:Int)) t ht
    refine IH (by omega) (szB (at' l (i:Int)) t) ⟨by omega,by omega,?_⟩
    rw[at_lt (show i<l.length by omega)] at h6 ⊢
    rw[← hI,List.drop_eq_getElem_cons (show i<l.length by omega),szL,if_neg h6]
  · rw[szBs,szS,if_neg h4,← hI,List.drop_of_length_le (by omega)];rfl
def szA3s (l:List (Int × Int × Int)) (left:Int):Int:=if left - (l.length:Int)<0 then -1 else left - (l.length:Int)
abbrev szA3s_pre (l:List (Int × Int × Int)) (left:Int):Prop:=(0≤left∧left≤1048576)∧l.length≤9223372036854775807
def szA3s_wp (a:List (Int × Int × Int)) (left:Int) (Z:Int→Prop):Prop:=
  ∀ len2:Int,len2=(a.length:Int)→(I64 (left - len2))∧∀ v5:Int,v5=left - len2→∀ c7:Bool,c7=decide (v5<0)→((c7=true→Z (-1))∧(c7=false→Z v5))
theorem szA3s_vc (l:List (Int × Int × Int)) (left:Int) (h:szA3s_pre l left):szA3s_wp l left (fun z=>z=szA3s l left):=by
  unfold szA3s_wp
  obtain⟨⟨h0,h1⟩,h2⟩:=h
  simp only[forall_eq,decide_eq_true_eq,decide_eq_false_iff_not,szA3s]
  refine⟨by simp only[I64];omega,fun h3=>by rw[if_pos h3],fun h3=>by rw[if_neg h3]⟩
def szY (x:Sys) (left:Int):Int:=if szBs x.states left<0 then -1 else szA3s x.steps (szBs x.states left)
abbrev szY_pre (x:Sys) (left:Int):Prop:=(0≤left∧left≤1048576)∧HugeY x
def szY_wp (a:Sys) (left:Int) (Z:Int→Prop):Prop:=
  (szBs_pre a.states left)∧∀ r5:Int,r5=szBs a.states left→∀ c6:Bool,c6=decide (r5<0)→((c6=true→Z (-1))∧(c6=false→(szA3s_pre a.steps r5)∧∀ r9:Int,r9=szA3s a.steps r5→∀ c10:Bool,c10=decide (r9<0)→((c10=true→Z (-1))∧(c10=false→Z r9))))
theorem szY_vc (x:Sys) (left:Int) (h:szY_pre x left):szY_wp x left (fun z=>z=szY x left):=by
  unfold szY_wp
  obtain⟨⟨h0,h1⟩,⟨h2,h3⟩,h4⟩:=h
  have hle:szBs x.states left≤left:=szS_le szB x.states left h0
  simp only[forall_eq,decide_eq_true_eq,decide_eq_false_iff_not]
  refine⟨⟨⟨h0,h1⟩,h2,h3⟩,fun h5=>by rw[szY,if_pos h5],fun h5=>⟨⟨⟨by omega,by omega⟩,h4⟩,fun h6=>?_,fun h6=>by rw[szY,if_neg h5]⟩⟩
  rw[szY,if_neg h5]
  simp only[szA3s] at h6 ⊢
  split at h6<;>omega
abbrev eqBs (a b:List Big):Bool:=decide (a=b)
abbrev eqBs_pre (a _:List Big):Prop:=a.length≤1048576∧∀ x ∈ a,EqB x
def eqBs_wp (a:List Big) (b:List Big) (Z:Bool→Prop):Prop:=
  ∀ len2:Int,len2=(a.length:Int)→∀ len4:Int,len4=(b.length:Int)→∀ c6:Bool,c6=decide (len2 ≠ len4)→((c6=true→Z false)∧(c6=false→loopW (σ:=Int) (fun i10 K13=>∀ len14:Int,len14=(a.length:Int)→∀ c16:Bool,c16=decide (i10<len14)→((c16=true→(0≤i10∧i10<a.length)∧∀ x19:Big,x19=at' a i10→(0≤i10∧i10<b.length)∧∀ x22:Big,x22=at' b i10→(EqB x19)∧∀ r25:Bool,r25=decide (x19=x22)→((r25=true→(I64 (i10+1))∧∀ v28:Int,v28=i10+1→K13 (v28))∧(r25=false→Z false)))∧(c16=false→Z true))) (0)))
theorem eqBs_vc (a b:List Big) (h:eqBs_pre a b):eqBs_wp a b (fun z=>z=eqBs a b):=by
  unfold eqBs_wp
  obtain⟨h1,h2⟩:=h
  simp only[forall_eq,decide_eq_true_eq,decide_eq_false_iff_not]
  refine⟨fun h3=>?_,fun h3=>?_⟩
  · rw[eqBs,decide_eq_false]
    rintro rfl
    exact h3 rfl
  · have hl:a.length=b.length:=by omega
    refine loopW.up1 a.length (fun i=>∀ j:Nat,j<i→at' a (j:Int)=at' b (j:Int)) (fun j hj=>by omega) ?_
    rintro i K hi hI IH
    refine⟨fun h4=>⟨⟨by omega,by omega⟩,⟨by omega,by omega⟩,h2 _ (at_mem ⟨by omega,by omega⟩),fun h5=>⟨by simp only[I64];omega,IH (by omega) fun j hj=>?_⟩,fun h5=>?_⟩,fun h4=>?_⟩
    · rcases Nat.lt_or_ge j i with h6 | h6
      · exact hI j h6
      · rw[show j=i by omega];exact h5
    · rw[eqBs,decide_eq_false]
      rintro rfl
      exact h5 rfl
    · rw[eqBs,decide_eq_true]
      refine List.ext_getElem hl fun j hj hj'=>?_
      have:=hI j (by omega)
      rwa [at_lt hj,at_lt hj'] at this
abbrev eqA3 (a b:Int × Int × Int):Bool:=decide (a=b)
def eqA3_wp (a:Int × Int × Int) (b:Int × Int × Int) (Z:Bool→Prop):Prop:=
  ∀ c6:Bool,c6=decide (a.1 ≠ b.1)→((c6=true→Z false)∧(c6=false→∀ c11:Bool,c11=decide (a.2.1 ≠ b.2.1)→((c11=true→Z false)∧(c11=false→∀ c15:Bool,c15=decide (a.2.2 ≠ b.2.2)→((c15=true→Z false)∧(c15=false→Z true))))))
theorem eqA3_vc (a b:Int × Int × Int):eqA3_wp a b (fun z=>z=eqA3 a b):=by
  unfold eqA3_wp
  obtain⟨a1,a2,a3⟩:=a
  obtain⟨b1,b2,b3⟩:=b
  simp only[forall_eq,decide_eq_true_eq,decide_eq_false_iff_not]
  refine⟨fun h1=>?_,fun h1=>⟨fun h2=>?_,fun h2=>⟨fun h3=>?_,fun h3=>?_⟩⟩⟩<;>simp_all [eqA3]
abbrev eqA3s (a b:List (Int × Int × Int)):Bool:=decide (a=b)
abbrev eqA3s_pre (a _:List (Int × Int × Int)):Prop:=a.length≤1048576
def eqA3s_wp (a:List (Int × Int × Int)) (b:List (Int × Int × Int)) (Z:Bool→Prop):Prop:=
  ∀ len2:Int,len2=(a.length:Int)→∀ len4:Int,len4=(b.length:Int)→∀ c6:Bool,c6=decide (len2 ≠ len4)→((c6=true→Z false)∧(c6=false→loopW (σ:=Int) (fun i10 K13=>∀ len14:Int,len14=(a.length:Int)→∀ c16:Bool,c16=decide (i10<len14)→((c16=true→(0≤i10∧i10<a.length)∧∀ x19:Int × Int × Int,x19=at' a i10→(0≤i10∧i10<b.length)∧∀ x22:Int × Int × Int,x22=at' b i10→∀ r24:Bool,r24=eqA3 (x19.1,x19.2.1,x19.2.2) (x22.1,x22.2.1,x22.2.2)→((r24=true→(I64 (i10+1))∧∀ v27:Int,v27=i10+1→K13 (v27))∧(r24=false→Z false)))∧(c16=false→Z true))) (0)))
theorem eqA3s_vc (a b:List (Int × Int × Int)) (h:eqA3s_pre a b):eqA3s_wp a b (fun z=>z=eqA3s a b):=by
  unfold eqA3s_wp
  simp only[forall_eq,decide_eq_true_eq,decide_eq_false_iff_not]
  refine⟨fun h3=>?_,fun h3=>?_⟩
  · rw[eqA3s,decide_eq_false]
    rintro rfl
    exact h3 rfl
  · have hl:a.length=b.length:=by omega
    refine loopW.up1 a.length (fun i=>∀ j:Nat,j<i→at' a (j:Int)=at' b (j:Int)) (fun j hj=>by omega) ?_
    rintro i K hi hI IH
    refine⟨fun h4=>⟨⟨by omega,by omega⟩,⟨by omega,by omega⟩,fun h5=>⟨by simp only[I64];omega,IH (by omega) fun j hj=>?_⟩,fun h5=>?_⟩,fun h4=>?_⟩
    · rcases Nat.lt_or_ge j i with h6 | h6
      · exact hI j h6
      · rw[show j=i by omega];exact h5
    · rw[eqA3s,decide_eq_false]
      rintro rfl
      exact h5 rfl
    · rw[eqA3s,decide_eq_true]
      refine List.ext_getElem hl fun j hj hj'=>?_
      have:=hI j (by omega)
      rwa [at_lt hj,at_lt hj'] at this
abbrev eqY (a b:Sys):Bool:=decide (a=b)
abbrev eqY_pre (a _:Sys):Prop:=eqBs_pre a.states []∧a.steps.length≤1048576
def eqY_wp (a:Sys) (b:Sys) (Z:Bool→Prop):Prop:=
  (eqBs_pre a.states b.states)∧∀ r6:Bool,r6=eqBs a.states b.states→((r6=true→(eqA3s_pre a.steps b.steps)∧∀ r8:Bool,r8=eqA3s a.steps b.steps→((r8=true→Z true)∧(r8=false→Z false)))∧(r6=false→Z false))
theorem eqY_vc (a b:Sys) (h:eqY_pre a b):eqY_wp a b (fun z=>z=eqY a b):=by
  unfold eqY_wp
  obtain⟨x,y⟩:=a
  obtain⟨u,v⟩:=b
  simp only[forall_eq,decide_eq_true_eq,decide_eq_false_iff_not]
  refine⟨h.1,fun h4=>⟨h.2,fun h5=>?_,fun h5=>?_⟩,fun h4=>?_⟩<;>simp_all [eqY]
end Go.Ab.Vg
/- PatternStates (statement 29): program and reference. -/
namespace Go.Ab.Vg
set_option linter.unusedSimpArgs false
set_option linter.unusedVariables false
def pat1_wp (b:Big) (v_:List Control) (Z:Bool→Prop):Prop:=
  (agentB_pre v_ b)∧∀ r5:Bool,r5=agentB v_ b→Z (!r5)
noncomputable abbrev pat1 (b:Big) (sig:List Control):Bool := !(agentB sig b)
abbrev pat1_pre (b:Big) (sig:List Control):Prop:=SmallB sig b
theorem pat1_vc (b:Big) (sig:List Control) (h:pat1_pre b sig):pat1_wp b sig (fun z=>z=pat1 b sig):=by
  unfold pat1_wp
  simp only[forall_eq]
  exact⟨h,trivial⟩
abbrev yldNo (_:Match):Bool:=false
noncomputable def patB (p b:Big):Bool := !(matchesB p b).isEmpty
noncomputable abbrev patStates (x:Sys) (p:Big) (k:Nat):List Int:=idxs x.states (fun b=>patB p b) k
theorem runY_no {α:Type}:∀ (l:List α),runY (fun (s:Unit) (_:α)=>(s,false)) l ()=((),l.isEmpty)
  | []=>rfl
  | _::_=>rfl
theorem noMatch (p b:Big):matchesY (fun s m=>(s,yldNo m)) p b [] ()=((),!(patB p b)):=by
  rw[matchesY,patB,Bool.not_not]
  exact runY_no _
theorem sysLen {x:Sys} (h:sysB x=true):1≤x.states.length∧x.states.length≤40:=by
  simp only[sysB,within,Bool.and_eq_true,decide_eq_true_eq] at h
  omega
theorem patPair {sig:Sig} {p b:Big} (hp:(goodB sig p && redexB p)=true) (hb:agentB sig b=true):Pair sig p b:=matching_pair (by rw[matching,hp,hb];rfl)
theorem found_pos (p b:Big):decide ((0:Int)<(l8Search p b [] 0).length)=patB p b:=by
  have:l8Search p b [] 0=(matchesB p b).take 1:=rfl
  rw[this,patB]
  cases matchesB p b<;>simp
noncomputable def PatternStates (sig:Sig) (x:Sys) (p:Big):List Int × Bool:=if sysB x && (goodB sig p && redexB p) && x.states.all (fun b=>agentB sig b) then (patStates x p x.states.length,true) else ([],false)
abbrev PatternStates_pre (sig:Sig) (x:Sys) (p:Big):Prop:=isSystem_pre x∧(∀ b ∈ x.states,SmallB sig b)∧SmallB sig p
def PatternStates_wp (sig:List Control) (x:Sys) (pattern:Big) (Z:((List Int) × Bool)→Prop):Prop:=
  joinW (fun (J6:Bool→Prop)=>(isSystem_pre x)∧∀ r67:Bool,r67=isSystem x→((r67=true→(SmallB sig pattern)∧∀ r69:Bool,r69=goodB sig pattern→((r69=true→(isRedex_pre pattern)∧∀ r71:Bool,r71=isRedex pattern→((r71=true→(x.states.length≤1048576∧∀ z ∈ x.states,pat1_pre z sig)∧∀ r73:Bool,r73=x.states.any (fun z=>pat1 z sig)→J6 (r73))∧(r71=false→J6 (true))))∧(r69=false→J6 (true))))∧(r67=false→J6 (true)))) (fun b9=>((b9=true→Z ([],false))∧(b9=false→∀ len17:Int,len17=(x.states.length:Int)→loopW (σ:=Int × (List Int)) (fun (v26,l27) K31=>∀ c32:Bool,c32=decide (v26<len17)→((c32=true→(0≤v26∧v26<x.states.length)∧∀ x35:Big,x35=at' x.states v26→(matchesY_pre (fun s m=>(s,yldNo m)) (fun _=>True) pattern x35 [] ())∧∀ r41:Unit × Bool,r41=matchesY (fun s m=>(s,yldNo m)) pattern x35 [] ()→((r41.2=true→(I64 (v26+1))∧∀ v63:Int,v63=v26+1→K31 (v63,l27))∧(r41.2=false→(l27.length+1≤1073741824)∧∀ l50:List Int,l50=l27++[v26]→(I64 (v26+1))∧∀ v60:Int,v60=v26+1→K31 (v60,l50))))∧(c32=false→Z (l27,true)))) (0,([]:List Int)))))
theorem PatternStates_vc (sig:Sig) (x:Sys) (p:Big) (h:PatternStates_pre sig x p):PatternStates_wp sig x p (fun z=>z=PatternStates sig x p):=by
  unfold PatternStates_wp
  obtain⟨h1,h2,h3⟩:=h
  simp only[forall_eq,decide_eq_true_eq,decide_eq_false_iff_not]
  refine⟨fun c=>c = !(sysB x && (goodB sig p && redexB p) && x.states.all (fun b=>agentB sig b)),⟨h1,fun h4=>⟨h3,fun h5=>⟨(goodB_valid h5).redexPre,fun h6=>⟨⟨h1.1,fun z hz=>h2 z hz⟩,?_⟩,fun h6=>?_⟩,fun h5=>?_⟩,fun h4=>?_⟩,?_⟩
  · rw[show sysB x=true from h4,h5,show redexB p=true from h6,List.all_eq_not_any_not];simp[pat1]
  · rw[show redexB p=false from h6];simp
  · rw[h5];simp
  · rw[show sysB x=false from h4];rfl
  · rintro _ rfl
    refine⟨fun h4=>?_,fun h4=>?_⟩
    · rw[PatternStates,if_neg (by rw[show (sysB x && (goodB sig p && redexB p) && x.states.all (fun b=>agentB sig b))=false by simpa only [Bool.not_eq_true'] using h4];simp)]
    · have h5:(sysB x && (goodB sig p && redexB p) && x.states.all (fun b=>agentB sig b))=true:=by simpa only [Bool.not_eq_false'] using h4
      rw[PatternStates,if_pos h5]
      rw[Bool.and_eq_true,Bool.and_eq_true,List.all_eq_true] at h5
      have hl:=sysLen h5.1.1
      refine loopW.upL x.states.length (fun k t=>t=patStates x p k) [] rfl ?_
      rintro k _ K hk rfl IH
      have hil:=idxs_len x.states (fun b=>patB p b) k
      refine⟨fun h6=>⟨⟨by omega,by omega⟩,⟨giv0 ⟨sig,patPair h5.1.2 (h5.2 _ (at_mem ⟨by omega,by omega⟩))⟩,trivial,fun _ _ _ _=>trivial⟩,?_⟩,fun h6=>?_⟩
      · rw[noMatch]
        refine⟨fun h7=>⟨by simp only[I64];omega,IH (by omega) _ ?_⟩,fun h7=>⟨by simp only[patStates];omega,by simp only[I64];omega,IH (by omega) _ ?_⟩⟩
        · rw[patStates,patStates,idxs_no _ _ (by simpa using h7)]
        · rw[patStates,patStates,idxs_yes _ _ (by simpa using h7)]
      · rw[show k=x.states.length by omega]
noncomputable abbrev sPatternStates (sig:Sig) (x:Sys) (p:Big):List Int × Bool:=PatternStates sig x p
abbrev sPatternStates_pre (sig:Sig) (x:Sys) (p:Big):Prop:=PatternStates_pre sig x p
def sPatternStates_wp (sig:List Control) (x:Sys) (pattern:Big) (Z:((List Int) × Bool)→Prop):Prop:=
  joinW (fun (J8:Bool→Prop)=>(l10Good_pre x)∧∀ r73:Bool,r73=l10Good x→((r73=true→(l8Redex_pre sig pattern)∧∀ r75:Bool,r75=l8Redex sig pattern→J8 ((!r75)))∧(r73=false→J8 (true)))) (fun b11=>((b11=true→Z (([]:List Int),false))∧(b11=false→loopW (σ:=Int × (List Int)) (fun (i23,l24) K28=>∀ len29:Int,len29=(x.states.length:Int)→∀ c31:Bool,c31=decide (i23<len29)→((c31=true→(0≤i23∧i23<x.states.length)∧∀ x34:Big,x34=at' x.states i23→(l2Agent_pre sig x34)∧∀ r37:Bool,r37=l2Agent sig x34→((r37=true→(0≤i23∧i23<x.states.length)∧∀ x45:Big,x45=at' x.states i23→(l8Search_pre pattern x45 ([]:List Int) 0)∧∀ r48:List Match,r48=l8Search pattern x45 ([]:List Int) 0→∀ len49:Int,len49=(r48.length:Int)→∀ c51:Bool,c51=decide (0<len49)→((c51=true→(l24.length+1≤1073741824)∧∀ l56:List Int,l56=l24++[i23]→(I64 (i23+1))∧∀ v66:Int,v66=i23+1→K28 (v66,l56))∧(c51=false→(I64 (i23+1))∧∀ v69:Int,v69=i23+1→K28 (v69,l24))))∧(r37=false→Z (([]:List Int),false))))∧(c31=false→Z (l24,true)))) (0,([]:List Int)))))
theorem sPatternStates_vc (sig:Sig) (x:Sys) (p:Big) (h:sPatternStates_pre sig x p):sPatternStates_wp sig x p (fun z=>z=sPatternStates sig x p):=by
  unfold sPatternStates_wp
  obtain⟨h1,h2,h3⟩:=h
  simp only[forall_eq]
  refine⟨fun c=>c = !(sysB x && (goodB sig p && redexB p)),⟨h1,fun h4=>⟨h3,?_⟩,fun h4=>?_⟩,?_⟩
  · rw[show sysB x=true from h4];rfl
  · rw[show sysB x=false from h4];rfl
  · rintro _ rfl
    refine⟨fun h4=>?_,fun h4=>?_⟩
    · rw[sPatternStates,PatternStates,if_neg (by rw[show (sysB x && (goodB sig p && redexB p))=false by simpa only [Bool.not_eq_true'] using h4];simp)]
    · have h5:(sysB x && (goodB sig p && redexB p))=true:=by simpa only [Bool.not_eq_false'] using h4
      rw[Bool.and_eq_true] at h5
      have hl:=sysLen h5.1
      refine loopW.upL x.states.length (fun k t=>t=patStates x p k∧∀ j:Nat,j<k→agentB sig (at' x.states (j:Int))=true) [] ⟨rfl,fun j hj=>by omega⟩ ?_
      rintro k _ K hk ⟨rfl,hA⟩ IH
      have hil:=idxs_len x.states (fun b=>patB p b) k
      refine⟨fun h6=>?_,fun h6=>?_⟩
      · have h6:(k:Int)<x.states.length:=of_decide_eq_true h6
        refine⟨⟨by omega,by omega⟩,h2 _ (at_mem ⟨by omega,by omega⟩),fun h7=>⟨⟨by omega,by omega⟩,⟨giv0 ⟨sig,patPair h5.2 h7⟩,by omega,by omega⟩,?_⟩,fun h7=>?_⟩
        · have hA2:∀ j:Nat,j<k+1→agentB sig (at' x.states (j:Int))=true:=fun j hj=>by
            rcases Nat.lt_or_ge j k with h8 | h8
            · exact hA j h8
            · rw[show j=k by omega];exact h7
          rw[found_pos]
          refine⟨fun h8=>⟨by simp only[patStates];omega,by simp only[I64];omega,IH (by omega) _ ⟨?_,hA2⟩⟩,fun h8=>⟨by simp only[I64];omega,IH (by omega) _ ⟨?_,hA2⟩⟩⟩
          · rw[patStates,patStates,idxs_yes _ _ (by simpa using h8)]
          · rw[patStates,patStates,idxs_no _ _ (by simpa using h8)]
        · rw[sPatternStates,PatternStates,if_neg]
          rw[Bool.and_eq_true,List.all_eq_true]
          rintro⟨_,h8⟩
          have:=h8 _ (at_mem (l:=x.states) (i:=(k:Int)) ⟨by omega,by omega⟩)
          rw[show agentB sig (at' x.states (k:Int))=false from h7] at this
          cases this
      · have h6:¬ (k:Int)<x.states.length:=of_decide_eq_false h6
        rw[sPatternStates,PatternStates,if_pos]
        · rw[show k=x.states.length by omega]
        · rw[Bool.and_eq_true,Bool.and_eq_true,List.all_eq_true]
          refine⟨h5,fun b hb=>?_⟩
          obtain⟨j,hj,rfl⟩:=List.getElem_of_mem hb
          have:=hA j (by omega)
          rwa [at_lt hj] at this
end Go.Ab.Vg
/- PatternStates (statement 29): marks on systems, and the law. -/
namespace Go.Ab.Vg
set_option linter.unusedSimpArgs false
set_option linter.unusedVariables false
def markBigR (b:Big) (k:Int):Big × Int:=
  let n:=markNodeS b.nodes (k+1)
  let s:=markIntS b.sites n.2
  let o:=markStringS b.outer (s.2+1)
  let i:=markWireS b.inner o.2
  (Big.mk k n.1 s.1 s.2 o.1 i.1,i.2)
def bigRow (b:Big):Nat:=bigSize b+2
theorem markBigR_size (b:Big) (k:Int):(markBigR b k).2=k+bigRow b:=by
  have h:=markNodeS_size b.nodes (k+1)
  simp only[markBigR,markIntS,markStringS,markWireS,markL,bigRow,bigSize,h]
  omega
abbrev markBigS (l:List Big) (k:Int):=markSeq markBigR l k
abbrev markBigS_pre (l:List Big) (k:Int):Prop:=0≤k∧l.length≤1048576∧(∀ x ∈ l,EqB x)∧k+(l.map bigRow).sum≤1152921504606846976
def markBigS_wp (a:List Big) (k_:Int) (Z:((List Big) × Int)→Prop):Prop:=
  loopW (σ:=Int × Int × (List Big)) (fun (k10,i11,l12) K15=>∀ len16:Int,len16=(l12.length:Int)→∀ c18:Bool,c18=decide (i11<len16)→((c18=true→(0≤i11∧i11<l12.length)∧∀ x21:Big,x21=at' l12 i11→∀ l43:List Big,l43=l12.set i11.toNat (Big.mk k10 x21.nodes x21.sites x21.edges x21.outer x21.inner)→(I64 (k10+1))∧∀ v49:Int,v49=k10+1→(0≤i11∧i11<l43.length)∧∀ x52:Big,x52=at' l43 i11→(markNodeS_pre x52.nodes v49)∧∀ r76:(List GNode) × Int,r76=markNodeS x52.nodes v49→∀ l82:List Big,l82=l43.set i11.toNat (Big.mk x52.roots r76.1 x52.sites x52.edges x52.outer x52.inner)→(0≤i11∧i11<l82.length)∧∀ x86:Big,x86=at' l82 i11→(markIntS_pre x86.sites r76.2)∧∀ r110:(List Int) × Int,r110=markIntS x86.sites r76.2→∀ l116:List Big,l116=l82.set i11.toNat (Big.mk x86.roots x86.nodes r110.1 x86.edges x86.outer x86.inner)→(0≤i11∧i11<l116.length)∧∀ x120:Big,x120=at' l116 i11→∀ l143:List Big,l143=l116.set i11.toNat (Big.mk x120.roots x120.nodes x120.sites r110.2 x120.outer x120.inner)→(I64 (r110.2+1))∧∀ v149:Int,v149=r110.2+1→(0≤i11∧i11<l143.length)∧∀ x152:Big,x152=at' l143 i11→(markStringS_pre x152.outer v149)∧∀ r176:(List Str) × Int,r176=markStringS x152.outer v149→∀ l182:List Big,l182=l143.set i11.toNat (Big.mk x152.roots x152.nodes x152.sites x152.edges r176.1 x152.inner)→(0≤i11∧i11<l182.length)∧∀ x186:Big,x186=at' l182 i11→(markWireS_pre x186.inner r176.2)∧∀ r210:(List Wire) × Int,r210=markWireS x186.inner r176.2→∀ l216:List Big,l216=l182.set i11.toNat (Big.mk x186.roots x186.nodes x186.sites x186.edges x186.outer r210.1)→(I64 (i11+1))∧∀ v220:Int,v220=i11+1→K15 (r210.2,v220,l216))∧(c18=false→Z (l12,k10)))) (k_,0,a)
theorem markBigS_vc (l:List Big) (k:Int) (h:markBigS_pre l k):markBigS_wp l k (fun z=>z=markBigS l k):=by
  unfold markBigS_wp
  obtain⟨h0,h1,h2,h3⟩:=h
  refine loopW.up l.length (fun s=>s.2.1) (fun i t=>(markAt markBigR l k i,(i:Int),t)) (fun _ _=>rfl) (fun i out=>out=markTo markBigR l k i) l (by simp[markAt,markSeq]) (markTo_zero _ _ _).symm ?_
  rintro i out K hk rfl IH
  have hl:=markTo_len markBigR l k i
  have hs:=markAt_size markBigR markBigR_size l k i
  have hs2:=sum_take_le (f:=bigRow) l i
  simp only[forall_eq,decide_eq_true_eq,decide_eq_false_iff_not,I64,Int.toNat_natCast,List.length_set]
  refine⟨fun h4=>?_,fun h4=>?_⟩
  · have hi:i<l.length:=by omega
    have hs3:=markAt_size markBigR markBigR_size l k (i+1)
    have hs4:=sum_take_le (f:=bigRow) l (i+1)
    have hs5:=markAt_succ markBigR (k:=k) hi
    rw[markBigR_size] at hs5
    have hz:bigRow l[i]=(l[i].nodes.map nodeSize).sum+l[i].sites.length+l[i].outer.length+2 * l[i].inner.length+2:=rfl
    obtain⟨n1,n2,n3,n4,n5⟩:=h2 _ (List.getElem_mem hi)
    have hn:=markNodeS_size l[i].nodes (markAt markBigR l k i+1)
    simp only[markTo_get markBigR hi,List.set_set,at_set (show i<(markTo markBigR l k i).length by omega)]
    refine⟨by omega,by omega,by omega,⟨by omega,n1,n2,by omega⟩,by omega,⟨by omega,by omega,by omega⟩,by omega,?_,by omega,⟨?_,by omega,?_⟩,by omega,⟨?_,by omega,?_⟩,by omega,?_⟩
    all_goals try (simp only[markIntS,markStringS,markL,hn];omega)
    have:=IH hi _ rfl
    rw[← markTo_set _ hi,markAt_succ _ hi] at this
    simpa[markBigR] using this
  · rw[show i=l.length by omega,markTo_end,markAt_end]
def mark3 (_:Int × Int × Int) (k:Int):(Int × Int × Int) × Int:=((k,k+1,k+2),k+3)
abbrev markA3S (l:List (Int × Int × Int)) (k:Int):=markSeq mark3 l k
abbrev markA3S_pre (l:List (Int × Int × Int)) (k:Int):Prop:=0≤k∧l.length≤1048576∧k+3 * l.length≤1152921504606846976
def markA3S_wp (a:List (Int × Int × Int)) (k_:Int) (Z:((List (Int × Int × Int)) × Int)→Prop):Prop:=
  loopW (σ:=Int × Int × (List (Int × Int × Int))) (fun (k10,i11,l12) K15=>∀ len16:Int,len16=(l12.length:Int)→∀ c18:Bool,c18=decide (i11<len16)→((c18=true→(0≤i11∧i11<l12.length)∧∀ x26:Int × Int × Int,x26=at' l12 i11→∀ l30:List (Int × Int × Int),l30=l12.set i11.toNat (k10,x26.2.1,x26.2.2)→(I64 (k10+1))∧∀ v36:Int,v36=k10+1→(0≤i11∧i11<l30.length)∧∀ x46:Int × Int × Int,x46=at' l30 i11→∀ l50:List (Int × Int × Int),l50=l30.set i11.toNat (x46.1,v36,x46.2.2)→(I64 (v36+1))∧∀ v56:Int,v56=v36+1→(0≤i11∧i11<l50.length)∧∀ x66:Int × Int × Int,x66=at' l50 i11→∀ l70:List (Int × Int × Int),l70=l50.set i11.toNat (x66.1,x66.2.1,v56)→(I64 (v56+1))∧∀ v76:Int,v76=v56+1→(I64 (i11+1))∧∀ v81:Int,v81=i11+1→K15 (v76,v81,l70))∧(c18=false→Z (l12,k10)))) (k_,0,a)
theorem markA3S_vc (l:List (Int × Int × Int)) (k:Int) (h:markA3S_pre l k):markA3S_wp l k (fun z=>z=markA3S l k):=by
  unfold markA3S_wp
  obtain⟨h0,h1,h3⟩:=h
  refine loopW.up l.length (fun s=>s.2.1) (fun i t=>(markAt mark3 l k i,(i:Int),t)) (fun _ _=>rfl) (fun i out=>out=markTo mark3 l k i) l (by simp[markAt,markSeq]) (markTo_zero _ _ _).symm ?_
  rintro i out K hk rfl IH
  have hl:=markTo_len mark3 l k i
  have hs:=markAt_size mark3 (sz:=fun _=>3) (fun _ _=>rfl) l k i
  simp only[List.map_const',List.sum_replicate_nat,List.length_take] at hs
  simp only[forall_eq,decide_eq_true_eq,decide_eq_false_iff_not,I64,Int.toNat_natCast,List.length_set]
  refine⟨fun h4=>?_,fun h4=>?_⟩
  · have hi:i<l.length:=by omega
    simp only[markTo_get mark3 hi,List.set_set,at_set (show i<(markTo mark3 l k i).length by omega)]
    refine⟨by omega,by omega,by omega,by omega,by omega,by omega,by omega,?_⟩
    have:=IH hi _ rfl
    rw[← markTo_set _ hi,markAt_succ _ hi] at this
    have e2:markAt mark3 l k i+1+1=markAt mark3 l k i+2:=by omega
    have e3:markAt mark3 l k i+2+1=markAt mark3 l k i+3:=by omega
    rw[e2,e3]
    exact this
  · rw[show i=l.length by omega,markTo_end,markAt_end]
theorem markBigS_size (l:List Big) (k:Int):(markBigS l k).2=k+(l.map bigRow).sum:=by
  have:=markAt_size markBigR markBigR_size l k l.length
  rwa [markAt_end,List.take_length] at this
theorem markA3S_size (l:List (Int × Int × Int)) (k:Int):(markA3S l k).2=k+3 * l.length:=by
  have:=markAt_size mark3 (sz:=fun _=>3) (fun _ _=>rfl) l k l.length
  rw[markAt_end,List.take_length] at this
  simp only[List.map_const',List.sum_replicate_nat] at this
  rw[this];omega
def markY (x:Sys) (k:Int):Sys × Int:=(⟨(markBigS x.states k).1,(markA3S x.steps (markBigS x.states k).2).1⟩,(markA3S x.steps (markBigS x.states k).2).2)
abbrev markY_pre (x:Sys) (k:Int):Prop:=markBigS_pre x.states k∧x.steps.length≤1048576∧k+(x.states.map bigRow).sum+3 * x.steps.length≤1152921504606846976
def markY_wp (a:Sys) (k_:Int) (Z:(Sys × Int)→Prop):Prop:=
  (markBigS_pre a.states k_)∧∀ r9:(List Big) × Int,r9=markBigS a.states k_→(markA3S_pre a.steps r9.2)∧∀ r18:(List (Int × Int × Int)) × Int,r18=markA3S a.steps r9.2→Z ((Sys.mk r9.1 r18.1),r18.2)
theorem markY_vc (x:Sys) (k:Int) (h:markY_pre x k):markY_wp x k (fun z=>z=markY x k):=by
  unfold markY_wp
  obtain⟨h1,h2,h3⟩:=h
  have hs:=markBigS_size x.states k
  simp only[forall_eq]
  exact⟨h1,⟨by omega,h2,by omega⟩,rfl⟩
theorem patStates_len (x:Sys) (p:Big):(patStates x p x.states.length).length≤x.states.length:=idxs_len _ _ _
theorem pat_len (sig:Sig) (x:Sys) (p:Big):(PatternStates sig x p).1.length≤x.states.length:=by
  rw[PatternStates]
  split
  · exact patStates_len x p
  · simp
theorem szL_ge {α:Type} (f:α→Int→Int) [SzF f] (g:α→Nat) (hf:∀ x c,0≤c→0≤f x c→(g x:Int)≤c - f x c):∀ (l:List α) (left:Int),0≤left→0≤szL f l left→((l.map g).sum:Int)≤left - szL f l left
  | [],left,_,_=>by simp[szL]
  | x::l,left,h,h2=>by
    rw[szL] at h2 ⊢
    split at h2
    · omega
    · rename_i h3
      rw[if_neg h3]
      have h4:=hf x left h (by omega)
      have h5:=szL_ge f g hf l (f x left) (by omega) h2
      simp only[List.map_cons,List.sum_cons]
      omega
theorem szS_ge {α:Type} (f:α→Int→Int) [SzF f] (g:α→Nat) (hf:∀ x c,0≤c→0≤f x c→(g x:Int)≤c - f x c) (l:List α) (left:Int) (h:0≤left) (h2:0≤szS f l left):((l.map g).sum:Int)+l.length≤left - szS f l left:=by
  unfold szS at h2 ⊢
  split at h2
  · omega
  · rename_i h3
    rw[if_neg h3]
    have:=szL_ge f g hf l (left - l.length) (by omega) h2
    omega
theorem szI_used (l:List Int) (c:Int) (h:0≤szI l c):(l.length:Int)≤c - szI l c:=by
  unfold szI at h ⊢
  split at h
  · omega
  · rename_i h3
    rw[if_neg h3];omega
def bigUsed (b:Big):Nat:=b.nodes.length+(b.nodes.map fun x=>x.links.length).sum+b.sites.length+b.outer.length+b.inner.length
theorem szB_used (b:Big) (c:Int) (h0:0≤c) (h:0≤szB b c):(bigUsed b:Int)≤c - szB b c:=by
  unfold szB at h ⊢
  split at h
  · omega
  rename_i a1
  rw[if_neg a1]
  split at h
  · omega
  rename_i a2
  rw[if_neg a2]
  split at h
  · omega
  rename_i a3
  rw[if_neg a3]
  split at h
  · omega
  rename_i a4
  rw[if_neg a4]
  have u1:=szS_ge szN (fun x=>x.links.length) (fun x c _ h=>szI_used x.links c h) b.nodes c h0 (by omega)
  have u2:=szI_used b.sites (szS szN b.nodes c) (by omega)
  have u3:=szS_ge szStr (fun _=>0) (fun x c h h2=>by have:=f_le szStr x c h;simp;omega) b.outer (szI b.sites (szS szN b.nodes c)) (by omega) (by omega)
  have u4:=szS_ge szW (fun _=>0) (fun x c h h2=>by have:=f_le szW x c h;simp;omega) b.inner (szS szStr b.outer (szI b.sites (szS szN b.nodes c))) (by omega) (by omega)
  unfold bigUsed
  omega
theorem row_used (b:Big):bigRow b≤2 * bigUsed b+2:=by
  have:∀ l:List GNode,(l.map nodeSize).sum=(l.map fun x=>x.links.length).sum+2 * l.length:=by
    intro l
    induction l with
    | nil=>rfl
    | cons x l ih=>simp only[List.map_cons,List.sum_cons,List.length_cons,nodeSize,ih];omega
  unfold bigRow bigSize bigUsed
  rw[this]
  omega
theorem rows_used:∀ l:List Big,(l.map bigRow).sum≤2 * (l.map bigUsed).sum+2 * l.length
  | []=>by simp
  | b::l=>by
    have h1:=rows_used l
    have h2:=row_used b
    simp only[List.map_cons,List.sum_cons,List.length_cons]
    omega
abbrev noBig:Big:=⟨0,[],[],0,[],[]⟩
theorem szB_no (left:Int) (h:0≤left):szB noBig left=left:=by
  have e:∀ {α:Type} (f:α→Int→Int),szS f [] left=left:=fun f=>by
    unfold szS
    rw[if_neg (by simp;omega)]
    simp[szL]
  have e2:szI [] left=left:=by unfold szI;rw[if_neg (by simp;omega)];simp
  unfold szB
  simp only[e,e2]
  rw[if_neg (by omega),if_neg (by omega),if_neg (by omega),if_neg (by omega)]
theorem sigOf {sig:Sig} (h:¬ szS szC sig 1048576<0):SmallB sig noBig:=
  smallB (left:=1048576) (by omega) (by omega) (by omega) (by rw[szB_no _ (by omega)];omega) ⟨by simp,by simp,by simp,by simp,by simp,by simp,by simp,by simp,by simp⟩
structure ArgsY (x:Sys) (left:Int):Prop where
  st:∀ b ∈ x.states,SmallB [] b
  len:x.states.length≤1048576
  steps:x.steps.length≤1048576
  used:((x.states.map bigRow).sum:Int)≤4194304
theorem sysOf {x:Sys} {left:Int} (h0:0≤left) (h1:left≤1048576) (h:¬ szY x left<0) (hh:HugeY x):ArgsY x left:=by
  have e0:szBs x.states left=szS szB x.states left:=rfl
  unfold szY at h
  rw[e0] at h
  split at h
  · omega
  rename_i a1
  obtain⟨m1,m2⟩:=szS_mem szB x.states left h0 (by omega)
  have u:=szS_ge szB bigUsed szB_used x.states left h0 (by omega)
  have r:=rows_used x.states
  have l1:szS szB x.states left≤left:=szS_le szB x.states left h0
  have a2:¬ (szS szB x.states left<(x.steps.length:Int)):=by
    intro c
    unfold szA3s at h
    split at h<;>omega
  refine⟨fun b hb=>?_,by omega,by omega,by omega⟩
  obtain⟨c,c1,c2,c3⟩:=m2 b hb
  exact smallOf c1 (by omega) (by omega) (hh.1.2 b hb)
abbrev lawPat (_:Sig) (_:Sys) (_:Big):Bool:=true
abbrev lawPat_pre (sig:Sig) (x:Sys) (p:Big):Prop:=HugeS sig∧HugeY x∧HugeB p
def lawPat_wp (aSig:List Control) (aX:Sys) (aPattern:Big) (Z:Bool→Prop):Prop:=
  (((0:Int)≤1048576∧(1048576:Int)≤1048576)∧HugeS aSig)∧∀ r6:Int,r6=szS szC aSig 1048576→∀ c7:Bool,c7=decide (r6<0)→((c7=true→Z true)∧(c7=false→(szY_pre aX r6)∧∀ r10:Int,r10=szY aX r6→∀ c11:Bool,c11=decide (r10<0)→((c11=true→Z true)∧(c11=false→(((0:Int)≤r10∧(r10:Int)≤1048576)∧HugeB aPattern)∧∀ r14:Int,r14=szB aPattern r10→∀ c16:Bool,c16=decide (r14<0)→((c16=true→Z true)∧(c16=false→(toControlS_pre aSig)∧∀ r19:List Control,r19=toControlS aSig→(toSystem_pre aX)∧∀ r21:Sys,r21=toSystem aX→(toBigraph_pre aPattern)∧∀ r23:Big,r23=toBigraph aPattern→(sPatternStates_pre r19 r21 r23)∧∀ r25:(List Int) × Bool,r25=sPatternStates r19 r21 r23→(toControlS_pre aSig)∧∀ r27:List Control,r27=toControlS aSig→(toSystem_pre aX)∧∀ r38:Sys,r38=toSystem aX→(toBigraph_pre aPattern)∧∀ r59:Big,r59=toBigraph aPattern→(PatternStates_pre r27 r38 r59)∧∀ r92:(List Int) × Bool,r92=PatternStates r27 r38 r59→joinW (fun (J113:Bool→Prop)=>(r92.1.length≤1048576)∧∀ r260:Bool,r260=decide (r92.1=r25.1)→((r260=true→∀ c261:Bool,c261 = !(r92.2 == r25.2)→J113 (c261))∧(r260=false→J113 (true)))) (fun b116=>((b116=true→Z false)∧(b116=false→(toControlS_pre aSig)∧∀ r128:List Control,r128=toControlS aSig→(r27.length≤1048576)∧∀ r137:Bool,r137=decide (r27=r128)→((r137=true→(toSystem_pre aX)∧∀ r148:Sys,r148=toSystem aX→(eqY_pre r38 r148)∧∀ r150:Bool,r150=eqY r38 r148→((r150=true→(toBigraph_pre aPattern)∧∀ r152:Big,r152=toBigraph aPattern→(EqB r59)∧∀ r154:Bool,r154=decide (r59=r152)→((r154=true→(markControlS_pre r27 1)∧∀ r156:(List Control) × Int,r156=markControlS r27 1→(markY_pre r38 r156.2)∧∀ r172:Sys × Int,r172=markY r38 r156.2→(markBig_pre r59 r172.2)∧∀ r189:Big × Int,r189=markBig r59 r172.2→joinW (fun (J203:Bool→Prop)=>∀ c253:Bool,c253=decide (r189.2<0)→((c253=true→J203 (true))∧(c253=false→(r92.1.length≤1048576)∧∀ r256:Bool,r256=decide (r92.1=r25.1)→((r256=true→∀ c257:Bool,c257 = !(r92.2 == r25.2)→J203 (c257))∧(r256=false→J203 (true)))))) (fun b206=>((b206=true→Z false)∧(b206=false→(markIntS_pre r92.1 1)∧∀ r211:(List Int) × Int,r211=markIntS r92.1 1→(heldIntS_pre r211.1 1)∧∀ r221:Int,r221=heldIntS r211.1 1→∀ c222:Bool,c222=decide (r221<0)→((c222=true→Z false)∧(c222=false→∀ c224:Bool,c224=decide (r221 ≠ r211.2)→((c224=true→Z false)∧(c224=false→(toControlS_pre aSig)∧∀ r227:List Control,r227=toControlS aSig→(toSystem_pre aX)∧∀ r229:Sys,r229=toSystem aX→(toBigraph_pre aPattern)∧∀ r231:Big,r231=toBigraph aPattern→(PatternStates_pre r227 r229 r231)∧∀ r233:(List Int) × Bool,r233=PatternStates r227 r229 r231→joinW (fun (J236:Bool→Prop)=>(r233.1.length≤1048576)∧∀ r250:Bool,r250=decide (r233.1=r25.1)→((r250=true→∀ c251:Bool,c251 = !(r233.2 == r25.2)→J236 (c251))∧(r250=false→J236 (true)))) (fun b239=>((b239=true→Z false)∧(b239=false→(heldIntS_pre r211.1 1)∧∀ r244:Int,r244=heldIntS r211.1 1→∀ c245:Bool,c245=decide (r244<0)→((c245=true→Z false)∧(c245=false→∀ c247:Bool,c247=decide (r244 ≠ r211.2)→((c247=true→Z false)∧(c247=false→Z true)))))))))))))))∧(r154=false→Z false)))∧(r150=false→Z false)))∧(r137=false→Z false)))))))))))
theorem lawPat_vc (sig:Sig) (x:Sys) (p:Big) (h:lawPat_pre sig x p):lawPat_wp sig x p (fun z=>z=lawPat sig x p):=by
  unfold lawPat_wp
  obtain⟨h1,h2,h3⟩:=h
  simp only[forall_eq,decide_eq_true_eq,decide_eq_false_iff_not,toControlS,toBigraph,toSystem,sPatternStates]
  refine⟨⟨by omega,h1⟩,fun _=>trivial,fun s1=>?_⟩
  have l1:=szS_le szC sig 1048576 (by omega)
  refine⟨⟨by omega,h2⟩,fun _=>trivial,fun s2=>?_⟩
  have l2:szY x (szS szC sig 1048576)≤szS szC sig 1048576:=by
    have a:=szS_le szB x.states (szS szC sig 1048576) (by omega)
    have a2:szBs x.states (szS szC sig 1048576)≤szS szC sig 1048576:=a
    unfold szY szA3s at s2 ⊢
    split
    · omega
    · split<;>omega
  refine⟨⟨by omega,h3⟩,fun _=>trivial,fun s3=>?_⟩
  have hS0:=sigOf s1
  have hS:=hS0.sigLen
  obtain⟨y1,y2,y3,y4⟩:=sysOf (by omega) (by omega) s2 h2
  have hP0:=smallOf (by omega) (by omega) s3 h3
  have hP:SmallB sig p:=bothOf hS0 hP0
  have hY:toSystem_pre x:=⟨⟨y2,fun b hb=>toOf (y1 b hb)⟩,y3⟩
  have hE:eqY_pre x x:=⟨⟨y2,fun b hb=>eqOf (y1 b hb)⟩,y3⟩
  have hI:isSystem_pre x:=⟨y2,y3⟩
  have hSt:∀ b ∈ x.states,SmallB sig b:=fun b hb=>bothOf hS0 (y1 b hb)
  have hL:=pat_len sig x p
  have k1:(markControlS sig 1).2=1+3 * sig.length:=rfl
  have hYm:markY_pre x (markControlS sig 1).2:=⟨⟨by omega,y2,fun b hb=>eqOf (y1 b hb),by omega⟩,y3,by omega⟩
  have k2:(markY x (markControlS sig 1).2).2=(markControlS sig 1).2+(x.states.map bigRow).sum+3 * x.steps.length:=by
    rw[markY];simp only;rw[markA3S_size,markBigS_size]
  obtain⟨m1,m2⟩:=markB (eqOf hP) (markY x (markControlS sig 1).2).2 (by omega) (by omega)
  generalize PatternStates sig x p=F at hL
  have h6:=held_mark F.1 1
  have h7:(markIntS F.1 1).2=1+1 * F.1.length:=rfl
  have h8:(markIntS F.1 1).1.length=F.1.length:=marked_len _ _ _ _
  refine⟨hS,hY,toOf hP,⟨hI,hSt,hP⟩,hS,hY,toOf hP,⟨hI,hSt,hP⟩,fun c=>c=false,⟨by omega,fun _=>by simp,fun h=>absurd trivial h⟩,?_⟩
  rintro _ rfl
  refine⟨fun h=>(by cases h),fun _=>⟨hS,hS,fun _=>⟨hY,hE,fun _=>⟨toOf hP,eqOf hP,fun _=>⟨⟨by omega,by omega,by omega⟩,hYm,m1,fun c=>c=false,⟨fun h=>by omega,fun _=>⟨by omega,fun _=>by simp,fun h=>absurd trivial h⟩⟩,?_⟩,fun h=>absurd trivial h⟩,fun h=>by simp[eqY] at h⟩,fun h=>absurd trivial h⟩⟩
  rintro _ rfl
  refine⟨fun h=>(by cases h),fun _=>⟨⟨by omega,by omega,by omega⟩,by simp only[heldIntS_pre];omega,fun h=>by omega,fun _=>⟨fun h=>absurd h6 h,fun _=>⟨hS,hY,toOf hP,⟨hI,hSt,hP⟩,fun c=>c=false,⟨by omega,fun _=>by simp,fun h=>absurd trivial h⟩,?_⟩⟩⟩⟩
  rintro _ rfl
  exact⟨fun h=>(by cases h),fun _=>⟨by simp only[heldIntS_pre];omega,fun h=>by omega,fun _=>⟨fun h=>absurd h6 h,fun _=>trivial⟩⟩⟩
end Go.Ab.Vg
