/- Part 4 of the proof: Dl, Rm, Me, Mq, Fl, Fm, Fq, Mx, My, Rq, Pp -/
import Derived.Test.YtpdlkdoogojboaaGreatZ03
import Derived.Test.YtpdlkdoogojboaaGreatZ02
import Derived.LoopN
/- Delete, over both trees. -/
namespace Go.Proofs.YtpdlkdoogojboaaGreat
open Go Go.RowKit
set_option maxRecDepth 100000
theorem entDl (β:Bool):Tryz.prog.funcs[fDelete β]? =some (BDelete β)∧(BDelete β).body=some (bodyC (BDelete β))∧(BDelete β).ntmps=57:=by cases β <;> exact ⟨kr (by kernel_rfl),kr (by kernel_rfl),kr (by kernel_rfl)⟩
noncomputable def gDl0 (β:Bool)  :=rg Tryz.prog (BDelete β) 0 57 [(4,2)] [] (Vq 0 4 [Kv (encV (va0 β)),Kv (.bool false)]) []
theorem obDl0 (β:Bool)   (w0:World) (fp0:List Nat) (R:List Asn):(gDl0 β  w0 fp0 R).Ok 2:=by
 cases β <;> exact Rg.ok _ 2 [] trivial
theorem cdDl0 (β:Bool):IsSq (BDelete β) [] 0:=by cases β <;> exact isq (by kernel_rfl)
noncomputable def gDl1 (β:Bool) (tb o rb n:Nat) (kk ov:Value) (was:Bool) (T0 T1:Asn):=rg Tryz.prog (BDelete β) 1 57 [(9,7),(8,1),(16,2),(6,2)] [(0,pV tb 0),(1,kk)] (Vq 0 9 [Kp tb 0,Kp tb 0,Kp tb 0,Kp tb 0,Kp rb 0,Kv kk,Kv (.tuple #[ov, .bool was])]++Vq 7 8 [Kv (.tuple #[ov, .bool was])]++Vq 8 16 [Kv ov,Kv (.bool was)]++Vq 10 6 [Kv ov,Kv (.bool was)]) [.gen [6] [] fun L _g=> match L 6 with | true=> T1 | false=> T0,Bk tb (tT β) [pV rb 0,nV o,nV n]]
theorem obDl1 (β:Bool) (tb o rb n:Nat) (kk ov:Value) (was:Bool) (T0 T1:Asn) (hrec:∀(w0:World) (fp0:List Nat) (R:List Asn) (w:World),St w0 fp0 ([T0,blkA tb (tT β) #[.pointer (some ⟨rb,0,none⟩), .int .i64 o, .int .i64 n]]++R) w→Calls Tryz.prog (fRemove β) #[ptrV tb,ptrV rb,kk] w fun e w'=> e=.returned (.tuple #[ov, .bool was])∧St w0 fp0 ([T1,blkA tb (tT β) #[.pointer (some ⟨rb,0,none⟩), .int .i64 o, .int .i64 n]]++R) w') (w0:World) (fp0:List Nat) (R:List Asn):(gDl1 β tb o rb n kk ov was T0 T1 w0 fp0 R).Ok 12:=by
 cases β <;> exact Rg.ok _ 12 [4,6] ⟨.load _ 4 1 0, .callF _ 6 _ _ (hrec _ _ _),trivial⟩
theorem cdDl1 (β:Bool):IsSq (BDelete β) [1] 1:=by cases β <;> exact isq (by kernel_rfl)
theorem sqDl0 (β:Bool):Sq (BDelete β) [1,1]:=by cases β <;> exact isQ (by kernel_rfl)
theorem sqDl1 (β:Bool):Sq (BDelete β) [1,1,0]:=by cases β <;> exact isQ (by kernel_rfl)
noncomputable def gDl2z (β:Bool) (tb o rb n n2:Nat) (T1:Asn):=rg Tryz.prog (BDelete β) 2 57 [(18,17)] [(0,pV tb 0)] (Vq 0 18 [Kp tb 0,Kp tb 0,Kp tb 0,Kp rb 0,Kp rb 0,Kp rb 0,Fv [24] fun g=> .slice (sa (g 24)) 0 (sc (g 24)),Kn 0,Kv (.bool true),Kv (.bool true),Kp tb 0,Kp tb 0,Kp tb 0,Kp rb 0,Kv (.bool (n2==0)),Kv (.bool (!(n2==0))),Kv (.bool (!(n2==0)))]) [.all (T1),Bk tb (tT β) [pV rb 0,nV o,nV n]]
theorem obDl2z (β:Bool) (tb o rb n n2:Nat) (T1:Asn) (hlook:∀w f,T1.p w f→∃ka kc,w.cell? ⟨rb,0,none⟩=some (.slice ka 0 kc)) (hleaf:∀w f,T1.p w f→Calls Tryz.prog (fLeaf β) #[ptrV rb] w fun e w'=> e=.returned (.bool (n2==0))∧Below w.heap.size w w') (w0:World) (fp0:List Nat) (R:List Asn):(gDl2z β tb o rb n n2 T1 w0 fp0 R).Ok 17:=by
 cases β <;> exact Rg.ok _ 17 [3,6,8,13,14] ⟨.load _ 3 1 0, .loadBy _ 6 0 (fun w f h=> let ⟨_,_,e⟩:=hlook w f h;⟨_,e,fun _=> rfl⟩), .eql _ 8 0 0, .load _ 13 1 0, .ask1 _ 14 0 hleaf,trivial⟩
theorem cdDl2z (β:Bool):IsRg (BDelete β) [1,1,0,0] 2:=by cases β <;> exact irg (by kernel_rfl)
noncomputable def gDl2s (β:Bool) (tb o rb n j:Nat) (T1:Asn):=rg Tryz.prog (BDelete β) 2 57 [(18,17)] [(0,pV tb 0)] (Vq 0 18 [Kp tb 0,Kp tb 0,Kp tb 0,Kp rb 0,Kp rb 0,Kp rb 0,Fv [24] fun g=> .slice (sa (g 24)) (j+1) (sc (g 24)),Kn (j+1),Kv (.bool false),Kv (.bool false),Kv undef,Kv undef,Kv undef,Kv undef,Kv undef,Kv undef,Kv (.bool false)]) [.all (T1),Bk tb (tT β) [pV rb 0,nV o,nV n]]
theorem obDl2s (β:Bool) (tb o rb n j:Nat) (T1:Asn) (_hm:j+1 < 1099511627776) (hlook:∀w f,T1.p w f→∃ka kc,w.cell? ⟨rb,0,none⟩=some (.slice ka (j+1) kc)) (w0:World) (fp0:List Nat) (R:List Asn):(gDl2s β tb o rb n j T1 w0 fp0 R).Ok 17:=by
 cases β <;> exact Rg.ok _ 17 [3,6,8,10,11,12,13,14,15] ⟨.load _ 3 1 0, .loadBy _ 6 0 (fun w f h=> let ⟨_,_,e⟩:=hlook w f h;⟨_,e,fun _=> rfl⟩), .eql _ 8 (j+1) 0, .skip _ 10, .skip _ 11, .skip _ 12, .skip _ 13, .skip _ 14, .skip _ 15,trivial⟩
theorem cdDl2s (β:Bool):IsRg (BDelete β) [1,1,0,0] 2:=by cases β <;> exact irg (by kernel_rfl)
theorem ccDl34 (β:Bool):isCond (csnd (cfst (csnd (csnd (bodyC (BDelete β))))))=true∧ccond (csnd (cfst (csnd (csnd (bodyC (BDelete β))))))=.tmp 34:=by cases β <;> exact ⟨kr (by kernel_rfl),kr (by kernel_rfl)⟩
noncomputable def gDl3 (β:Bool) (tb o rb n gp n2 c2 cb:Nat) (ks vs:Value) (zs:List Value):=rg Tryz.prog (BDelete β) 3 57 [(35,12)] [(0,pV tb 0)] (Vq 0 35 [Kp tb 0,Kp tb 0,Kp tb 0,Kp tb 0,Kp rb 0,Kp rb 0,Kp rb 2,Ks gp n2 c2,Kp gp 0,Kp cb 0,Kp tb 0,Kp tb 0]) [Bk rb (tN β) [ks,vs,sV gp n2 c2], .sl (tP β) (sV gp n2 c2) zs [], .blk tb (tT β) [⟨pV rb 0,[(12, .v (pV cb 0))]⟩,⟨nV o,[]⟩,⟨nV n,[]⟩]]
theorem obDl3 (β:Bool) (tb o rb n gp n2 c2 cb:Nat) (ks vs:Value) (zs:List Value) (h0:0 < n2) (hzi:zs[0]? =some (ptrV cb)) (w0:World) (fp0:List Nat) (R:List Asn):(gDl3 β tb o rb n gp n2 c2 cb ks vs zs w0 fp0 R).Ok 13:=by
 cases β <;> exact Rg.ok _ 13 [4,7,8,9,12] ⟨.load _ 4 2 0, .load _ 7 0 2, .index _ 8 gp n2 c2 0 h0, .elem _ 9 1 0 hzi, .storeV _ 12 2 0,trivial⟩
theorem cdDl3 (β:Bool):IsRg (BDelete β) [1,1,0,1,2] 3:=by cases β <;> exact irg (by kernel_rfl)
theorem isSkipDl2 (β:Bool):isSkip (celse (csnd (cfst (csnd (csnd (bodyC (BDelete β)))))))=true:=by cases β <;> exact kr (by kernel_rfl)
theorem sqDl3 (β:Bool):Sq (BDelete β) [1,1,1]:=by cases β <;> exact isQ (by kernel_rfl)
noncomputable def gDl4 (β:Bool) (was:Bool):=rg Tryz.prog (BDelete β) 4 57 [(47,1)] [(7, .bool was)] (Vq 0 47 [Kv (.bool was)]) []
theorem obDl4 (β:Bool) (was:Bool)  (w0:World) (fp0:List Nat) (R:List Asn):(gDl4 β was w0 fp0 R).Ok 1:=by
 cases β <;> exact Rg.ok _ 1 [] trivial
theorem cdDl4 (β:Bool):IsSq (BDelete β) [1,1,1,0] 4:=by cases β <;> exact isq (by kernel_rfl)
theorem ccDl47 (β:Bool):isCond (csnd (cfst (csnd (csnd (csnd (bodyC (BDelete β)))))))=true∧ccond (csnd (cfst (csnd (csnd (csnd (bodyC (BDelete β)))))))=.tmp 47:=by cases β <;> exact ⟨kr (by kernel_rfl),kr (by kernel_rfl)⟩
noncomputable def gDl5 (β:Bool) (tb o rb2 n1:Nat):=rg Tryz.prog (BDelete β) 5 57 [(48,7)] [(0,pV tb 0)] (Vq 0 48 [Kp tb 0,Kp tb 0,Kp tb 2,Kn (n1+1),Kn n1,Kp tb 0,Kp tb 2]) [.blk tb (tT β) [⟨pV rb2 0,[]⟩,⟨nV o,[]⟩,⟨nV (n1+1),[(7, .v (nV n1))]⟩]]
theorem obDl5 (β:Bool) (tb o rb2 n1:Nat) (hn:n1+1 < 1099511627776) (w0:World) (fp0:List Nat) (R:List Asn):(gDl5 β tb o rb2 n1 w0 fp0 R).Ok 8:=by
 cases β <;> exact Rg.ok _ 8 [3,4,7] ⟨.load _ 3 0 2, .sub _ 4 (n1+1) (1) ((n1:Nat):Int), .storeV _ 7 0 2,trivial⟩
theorem cdDl5 (β:Bool):IsRg (BDelete β) [1,1,1,0,1,2] 5:=by cases β <;> exact irg (by kernel_rfl)
theorem isSkipDl4 (β:Bool):isSkip (celse (csnd (cfst (csnd (csnd (csnd (bodyC (BDelete β))))))))=true:=by cases β <;> exact kr (by kernel_rfl)
noncomputable def gDl6 (β:Bool) (ov:Value) (was:Bool):=rg Tryz.prog (BDelete β) 6 57 [(55,2),(4,2)] [(6,ov),(7, .bool was)] (Vq 0 55 [Kv ov,Kv (.bool was)]++Vq 2 4 [Kv ov,Kv (.bool was)]) []
theorem obDl6 (β:Bool) (ov:Value) (was:Bool)  (w0:World) (fp0:List Nat) (R:List Asn):(gDl6 β ov was w0 fp0 R).Ok 4:=by
 cases β <;> exact Rg.ok _ 4 [] trivial
theorem cdDl6 (β:Bool):IsSq (BDelete β) [1,1,1,1] 6:=by cases β <;> exact isq (by kernel_rfl)
theorem isRetDl5 (β:Bool):isRet (csnd (csnd (csnd (csnd (csnd (bodyC (BDelete β)))))))=true:=by cases β <;> exact kr (by kernel_rfl)
theorem resDl (β:Bool):(BDelete β).results=#[.tmp 4, .tmp 5]:=by cases β <;> exact kr (by kernel_rfl)
set_option maxHeartbeats 4000000 in
theorem Delete_flat (β:Bool) (tb o rb m n2 n:Nat) (kk ov:Value) (was:Bool) (T0 T1:Asn) (TF:Nat→Asn) (hm:m < 1099511627776) (hn:n < 1099511627776) (hn0:was=true→0 < n)
 (hrec:∀(w0:World) (fp0:List Nat) (R:List Asn) (w:World),St w0 fp0 ([T0,blkA tb (tT β) #[.pointer (some ⟨rb,0,none⟩), .int .i64 o, .int .i64 n]]++R) w→Calls Tryz.prog (fRemove β) #[ptrV tb,ptrV rb,kk] w fun e w'=> e=.returned (.tuple #[ov, .bool was])∧St w0 fp0 ([T1,blkA tb (tT β) #[.pointer (some ⟨rb,0,none⟩), .int .i64 o, .int .i64 n]]++R) w')
 (hlook:∀w f,T1.p w f→∃ka kc,w.cell? ⟨rb,0,none⟩=some (.slice ka m kc))
 (hleaf:∀w f,T1.p w f→Calls Tryz.prog (fLeaf β) #[ptrV rb] w fun e w'=> e=.returned (.bool (n2==0))∧Below w.heap.size w w')
 (hroot:m=0→n2≠0→∀(w0:World) (fp0:List Nat) (R:List Asn) (w:World),St w0 fp0 ([T1,blkA tb (tT β) #[.pointer (some ⟨rb,0,none⟩), .int .i64 o, .int .i64 n]]++R) w→∃ks vs gp c2 cb zs,zs[0]? =some (ptrV cb)∧St w0 fp0 ([blkA rb (tN β) #[ks,vs, .slice (some ⟨gp,0,none⟩) n2 c2],slA (tP β) (.slice (some ⟨gp,0,none⟩) n2 c2) zs,TF cb,blkA tb (tT β) #[.pointer (some ⟨rb,0,none⟩), .int .i64 o, .int .i64 n]]++R) w)
 (Rr:Ending→World→Prop) (w0 w:World) (fp0:List Nat) (R:List Asn)
 (hP:∀(X:Asn) (rb2:Nat) (w':World),(¬ (m=0∧n2≠0)∧X=T1∧rb2=rb∨(m=0∧n2≠0)∧X=TF rb2)→St w0 fp0 ([X,blkA tb (tT β) #[.pointer (some ⟨rb2,0,none⟩), .int .i64 o, .int .i64 ((if was then n - 1 else n:Nat):Int)]]++R) w'→Rr (.returned (.tuple #[ov, .bool was])) w')
 (hS:St w0 fp0 ([T0,blkA tb (tT β) #[pV rb 0,nV o,nV n]]++R) w):Calls Tryz.prog (fDelete β) #[ptrV tb,kk] w Rr:=by
 refine calls_T [(0,pV tb 0),(1,kk)] (entDl β) (by simp) (by kernel_rfl) fun A0 K0=> ?_
 refine wp_seqT (cdDl0 β).sq ?_
 refine wp_regT (obDl0 β   _ _ _) (by kernel_rfl) (cdDl0 β).cd (K0.sub (by kernel_rfl)) (St_re hS [] [0,1] (by kernel_rfl)) fun A1 w1 N1 H1=> ?_
 have S1:St w0 fp0 ([T0,blkA tb (tT β) #[pV rb 0,nV o,nV n]]++R) w1:=H1
 have K1:Knows 57 A1 [(0,pV tb 0),(1,kk),(4,encV (va0 β)),(5, .bool false)]:=N1.knows K0 (by kernel_rfl)
 refine wp_seqT (cdDl1 β).sq ?_
 refine wp_regT (obDl1 β tb o rb n kk ov was T0 T1 hrec _ _ _) (by kernel_rfl) (cdDl1 β).cd (K1.sub (by kernel_rfl)) (St_re S1 [0,1] [] (by kernel_rfl)) fun A2 w2 N2 H2=> ?_
 have S2:St w0 fp0 ([T1,blkA tb (tT β) #[pV rb 0,nV o,nV n]]++R) w2:=H2
 have K2:Knows 57 A2 [(0,pV tb 0),(1,kk),(4,encV (va0 β)),(5, .bool false),(6,ov),(7, .bool was)]:=N2.knows K1 (by kernel_rfl)
 refine wp_seqJ (sqDl0 β) (fun A w=> ∃(X:Asn) (rb2:Nat) (hx:¬ (m=0∧n2≠0)∧X=T1∧rb2=rb∨(m=0∧n2≠0)∧X=TF rb2),Knows 57 A [(0,pV tb 0),(6,ov),(7, .bool was)]∧St w0 fp0 ([X,blkA tb (tT β) #[pV rb2 0,nV o,nV n]]++R) w) ?_ ?_
 · skip
   refine wp_seqJ (sqDl1 β) (fun A w=> ∃(q1:Bool) (hq1:q1=true↔m=0∧n2≠0),Knows 57 A [(0,pV tb 0),(6,ov),(7, .bool was),(34, .bool q1)]∧St w0 fp0 ([T1,blkA tb (tT β) #[pV rb 0,nV o,nV n]]++R) w) ?_ ?_
   · skip
     cases m with
     | zero=>
      refine wp_regT (obDl2z β tb o rb n n2 T1 hlook hleaf _ _ _) (by kernel_rfl) (cdDl2z β).cd (K2.sub (by kernel_rfl)) (St_re S2 [0,1] [] (by kernel_rfl)) fun A3 w3 N3 H3=> ?_
      have S3:St w0 fp0 ([T1,blkA tb (tT β) #[pV rb 0,nV o,nV n]]++R) w3:=H3
      have K3:Knows 57 A3 [(0,pV tb 0),(1,kk),(4,encV (va0 β)),(5, .bool false),(6,ov),(7, .bool was),(34, .bool (!(n2==0)))]:=N3.knows K2 (by kernel_rfl)
      exact ⟨!(n2==0),by simp,K3.sub (by kernel_rfl),(St_re S3 [0,1] [] (by kernel_rfl))⟩
     | succ j=>
      refine wp_regT (obDl2s β tb o rb n j T1 hm hlook _ _ _) (by kernel_rfl) (cdDl2s β).cd (K2.sub (by kernel_rfl)) (St_re S2 [0,1] [] (by kernel_rfl)) fun A4 w4 N4 H4=> ?_
      have S4:St w0 fp0 ([T1,blkA tb (tT β) #[pV rb 0,nV o,nV n]]++R) w4:=H4
      have K4:Knows 57 A4 [(0,pV tb 0),(1,kk),(4,encV (va0 β)),(5, .bool false),(6,ov),(7, .bool was),(34, .bool false)]:=N4.knows K2 (by kernel_rfl)
      exact ⟨false,by simp,K4.sub (by kernel_rfl),(St_re S4 [0,1] [] (by kernel_rfl))⟩
   · rintro A5 w5 ⟨q1,hq1,K5,S5⟩
     refine wp_condK (ccDl34 β) K5 (by rfl) (fun hq=> ?_) (fun hq=> ?_)
     · skip
       obtain ⟨hm0,hn2⟩:=hq1.1 hq
       obtain ⟨ks,vs,gp,c2,cb,zs,hzi,S9⟩:=hroot hm0 hn2 _ _ _ _ (St_re S5 [0,1] [] (by kernel_rfl))
       refine wp_regT (obDl3 β tb o rb n gp n2 c2 cb ks vs zs (by omega) hzi _ _ _) (by kernel_rfl) (cdDl3 β).cd (K5.sub (by kernel_rfl)) (St_re S9 [0,1,3] [2] (by kernel_rfl)) fun A6 w6 N6 H6=> ?_
       have S6:St w0 fp0 ([blkA rb (tN β) #[ks,vs,sV gp n2 c2],slA (tP β) (sV gp n2 c2) zs,blkA tb (tT β) #[pV cb 0,nV o,nV n],TF cb]++R) w6:=H6
       have K6:Knows 57 A6 [(0,pV tb 0),(6,ov),(7, .bool was),(34, .bool q1)]:=N6.knows K5 (by kernel_rfl)
       exact ⟨TF cb,cb, .inr ⟨⟨hm0,hn2⟩,rfl⟩,K6.sub (by kernel_rfl),(St.drop (St.drop (St_re S6 [0,1,3,2] [] (by kernel_rfl))))⟩
     · skip
       refine wp_skipT (isSkipDl2 β) ?_
       have hn1:¬ (m=0∧n2≠0):=fun h=> by rw [hq1.2 h] at hq;cases hq
       exact ⟨T1,rb, .inl ⟨hn1,rfl,rfl⟩,K5.sub (by kernel_rfl),(St_re S5 [0,1] [] (by kernel_rfl))⟩
 · rintro A7 w7 ⟨X,rb2,hx,K7,S7⟩
   refine wp_seqJ (sqDl3 β) (fun A w=> ∃(n2:Nat) (hn2:n2=if was then n - 1 else n),Knows 57 A [(6,ov),(7, .bool was)]∧St w0 fp0 ([X,blkA tb (tT β) #[pV rb2 0,nV o,nV n2]]++R) w) ?_ ?_
   · skip
     refine wp_seqT (cdDl4 β).sq ?_
     refine wp_regT (obDl4 β was  _ _ _) (by kernel_rfl) (cdDl4 β).cd (K7.sub (by kernel_rfl)) (St_re S7 [] [0,1] (by kernel_rfl)) fun A8 w8 N8 H8=> ?_
     have S8:St w0 fp0 ([X,blkA tb (tT β) #[pV rb2 0,nV o,nV n]]++R) w8:=H8
     have K8:Knows 57 A8 [(0,pV tb 0),(6,ov),(7, .bool was),(47, .bool was)]:=N8.knows K7 (by kernel_rfl)
     refine wp_condK (ccDl47 β) K8 (by rfl) (fun hq=> ?_) (fun hq=> ?_)
     · skip
       obtain ⟨n1,rfl⟩:∃n1,n=n1+1:=⟨n - 1,by have:=hn0 hq;omega⟩
       refine wp_regT (obDl5 β tb o rb2 n1 hn _ _ _) (by kernel_rfl) (cdDl5 β).cd (K8.sub (by kernel_rfl)) (St_re S8 [1] [0] (by kernel_rfl)) fun A9 w9 N9 H9=> ?_
       have S9:St w0 fp0 ([blkA tb (tT β) #[pV rb2 0,nV o,nV n1],X]++R) w9:=H9
       have K9:Knows 57 A9 [(0,pV tb 0),(6,ov),(7, .bool was),(47, .bool was)]:=N9.knows K8 (by kernel_rfl)
       exact ⟨n1,by simp [hq],K9.sub (by kernel_rfl),(St_re S9 [1,0] [] (by kernel_rfl))⟩
     · skip
       refine wp_skipT (isSkipDl4 β) ?_
       exact ⟨n,by simp [hq],K8.sub (by kernel_rfl),(St_re S8 [0,1] [] (by kernel_rfl))⟩
   · rintro A10 w10 ⟨n2,hn2,K10,S10⟩
     refine wp_seqT (cdDl6 β).sq ?_
     refine wp_regT (obDl6 β ov was  _ _ _) (by kernel_rfl) (cdDl6 β).cd (K10.sub (by kernel_rfl)) (St_re S10 [] [0,1] (by kernel_rfl)) fun A11 w11 N11 H11=> ?_
     have S11:St w0 fp0 ([X,blkA tb (tT β) #[pV rb2 0,nV o,nV n2]]++R) w11:=H11
     have K11:Knows 57 A11 [(6,ov),(7, .bool was),(4,ov),(5, .bool was)]:=N11.knows K10 (by kernel_rfl)
     refine wp_retT (isRetDl5 β) ?_
     refine post_T K11 (res2 (resDl β) K11 (by rfl) (by rfl)) ?_
     exact hP X rb2 _ hx (hn2 ▸ S11)
end Go.Proofs.YtpdlkdoogojboaaGreat
/- remove, over both trees. -/
namespace Go.Proofs.YtpdlkdoogojboaaGreat
open Go Go.RowKit
set_option maxRecDepth 100000
theorem entRm (β:Bool):Tryz.prog.funcs[fRemove β]? =some (BRemove β)∧(BRemove β).body=some (bodyC (BRemove β))∧(BRemove β).ntmps=136:=by cases β <;> exact ⟨kr (by kernel_rfl),kr (by kernel_rfl),kr (by kernel_rfl)⟩
noncomputable def gRm0 (β:Bool)  :=rg Tryz.prog (BRemove β) 0 136 [(6,2)] [] (Vq 0 6 [Kv (encV (va0 β)),Kv (.bool false)]) []
theorem obRm0 (β:Bool)   (w0:World) (fp0:List Nat) (R:List Asn):(gRm0 β  w0 fp0 R).Ok 2:=by
 cases β <;> exact Rg.ok _ 2 [] trivial
theorem cdRm0 (β:Bool):IsSq (BRemove β) [] 0:=by cases β <;> exact isq (by kernel_rfl)
noncomputable def gRm1 (β:Bool) (b n2 c2 i:Nat) (ks vs kk:Value) (q:Bool) (a2:Option Addr) (xs:List Value):=rg Tryz.prog (BRemove β) 1 136 [(15,3),(14,1),(18,2),(8,2)] [(1,pV b 0),(2,kk)] (Vq 0 15 [Kp b 0,Kv kk,Kv (.tuple #[nV i, .bool q])]++Vq 3 14 [Kv (.tuple #[nV i, .bool q])]++Vq 4 18 [Kn i,Kv (.bool q)]++Vq 6 8 [Kn i,Kv (.bool q)]) [Bk b (tN β) [ks,vs, .slice a2 n2 c2], .sl (tK β) (ks) xs []]
theorem obRm1 (β:Bool) (b n2 c2 i:Nat) (ks vs kk:Value) (q:Bool) (a2:Option Addr) (xs:List Value) (hfind:∀w fp fp',(blkA b (tN β) #[ks,vs, .slice a2 n2 c2]).p w fp→(slA (tK β) ks xs).p w fp'→Calls Tryz.prog (fFind β) #[ptrV b,kk] w fun e w'=> e=.returned (.tuple #[.int .i64 i, .bool q])∧Below w.heap.size w w') (w0:World) (fp0:List Nat) (R:List Asn):(gRm1 β b n2 c2 i ks vs kk q a2 xs w0 fp0 R).Ok 8:=by
 cases β <;> exact Rg.ok _ 8 [2] ⟨.ask2 _ 2 0 1 hfind,trivial⟩
theorem cdRm1 (β:Bool):IsSq (BRemove β) [1] 1:=by cases β <;> exact isq (by kernel_rfl)
theorem sqRm0 (β:Bool):Sq (BRemove β) [1,1]:=by cases β <;> exact isQ (by kernel_rfl)
noncomputable def gRm2 (β:Bool) (b n2 c2:Nat) (ks vs:Value) (a2:Option Addr):=rg Tryz.prog (BRemove β) 2 136 [(20,2)] [(1,pV b 0)] (Vq 0 20 [Kp b 0,Kv (.bool (n2==0))]) [Bk b (tN β) [ks,vs, .slice a2 n2 c2]]
theorem obRm2 (β:Bool) (b n2 c2:Nat) (ks vs:Value) (a2:Option Addr)  (w0:World) (fp0:List Nat) (R:List Asn):(gRm2 β b n2 c2 ks vs a2 w0 fp0 R).Ok 2:=by
 cases β <;> exact Rg.ok _ 2 [1] ⟨.ask1 _ 1 0 (fun w fp h=> (leaf_calls b _ _ a2 n2 c2 w h).mono fun e w' ⟨h1,h2⟩=> ⟨h1,h2 ▸ Below.refl _ _⟩),trivial⟩
theorem cdRm2 (β:Bool):IsSq (BRemove β) [1,1,0] 2:=by cases β <;> exact isq (by kernel_rfl)
theorem ccRm21 (β:Bool):isCond (csnd (cfst (csnd (csnd (bodyC (BRemove β))))))=true∧ccond (csnd (cfst (csnd (csnd (bodyC (BRemove β))))))=.tmp 21:=by cases β <;> exact ⟨kr (by kernel_rfl),kr (by kernel_rfl)⟩
theorem sqRm1 (β:Bool):Sq (BRemove β) [1,1,0,1,2]:=by cases β <;> exact isQ (by kernel_rfl)
noncomputable def gRm3 (β:Bool) (q:Bool):=rg Tryz.prog (BRemove β) 3 136 [(22,2)] [(9, .bool q)] (Vq 0 22 [Kv (.bool q),Kv (.bool (!q))]) []
theorem obRm3 (β:Bool) (q:Bool)  (w0:World) (fp0:List Nat) (R:List Asn):(gRm3 β q w0 fp0 R).Ok 2:=by
 cases β <;> exact Rg.ok _ 2 [] trivial
theorem cdRm3 (β:Bool):IsSq (BRemove β) [1,1,0,1,2,0] 3:=by cases β <;> exact isq (by kernel_rfl)
theorem ccRm23 (β:Bool):isCond (csnd (cfst (cthen (csnd (cfst (csnd (csnd (bodyC (BRemove β)))))))))=true∧ccond (csnd (cfst (cthen (csnd (cfst (csnd (csnd (bodyC (BRemove β)))))))))=.tmp 23:=by cases β <;> exact ⟨kr (by kernel_rfl),kr (by kernel_rfl)⟩
noncomputable def gRm4 (β:Bool)  :=rg Tryz.prog (BRemove β) 4 136 [(10,1)] [] (Vq 0 10 [Kv (encV (va0 β))]) []
theorem obRm4 (β:Bool)   (w0:World) (fp0:List Nat) (R:List Asn):(gRm4 β  w0 fp0 R).Ok 1:=by
 cases β <;> exact Rg.ok _ 1 [] trivial
theorem cdRm4 (β:Bool):IsSq (BRemove β) [1,1,0,1,2,0,1,2] 4:=by cases β <;> exact isq (by kernel_rfl)
noncomputable def gRm5 (β:Bool)  :=rg Tryz.prog (BRemove β) 5 136 [(24,1),(6,2)] [(10,encV (va0 β))] (Vq 0 24 [Kv (encV (va0 β))]++Vq 1 6 [Kv (encV (va0 β)),Kv (.bool false)]) []
theorem obRm5 (β:Bool)   (w0:World) (fp0:List Nat) (R:List Asn):(gRm5 β  w0 fp0 R).Ok 3:=by
 cases β <;> exact Rg.ok _ 3 [] trivial
theorem cdRm5 (β:Bool):IsSq (BRemove β) [1,1,0,1,2,0,1,2,1] 5:=by cases β <;> exact isq (by kernel_rfl)
theorem isRetRm2 (β:Bool):isRet (csnd (csnd (cthen (csnd (cfst (cthen (csnd (cfst (csnd (csnd (bodyC (BRemove β))))))))))))=true:=by cases β <;> exact kr (by kernel_rfl)
theorem resRm (β:Bool):(BRemove β).results=#[.tmp 6, .tmp 7]:=by cases β <;> exact kr (by kernel_rfl)
theorem isSkipRm3 (β:Bool):isSkip (celse (csnd (cfst (cthen (csnd (cfst (csnd (csnd (bodyC (BRemove β))))))))))=true:=by cases β <;> exact kr (by kernel_rfl)
noncomputable def gRm6 (β:Bool) (b gv cv n2 c2 i:Nat) (ks y:Value) (a2:Option Addr) (ys:List Value):=rg Tryz.prog (BRemove β) 6 136 [(25,7),(11,1)] [(1,pV b 0),(8,nV i)] (Vq 0 25 [Kp b 0,Kp b 0,Kp b 1,Ks gv ys.length cv,Kn i,Kp gv i,Kv y]++Vq 7 11 [Kv y]) [Bk b (tN β) [ks,sV gv ys.length cv, .slice a2 n2 c2], .sl (tV β) (sV gv ys.length cv) ys []]
theorem obRm6 (β:Bool) (b gv cv n2 c2 i:Nat) (ks y:Value) (a2:Option Addr) (ys:List Value) (hin:i < ys.length) (hyi:ys[i]? =some y) (w0:World) (fp0:List Nat) (R:List Asn):(gRm6 β b gv cv n2 c2 i ks y a2 ys w0 fp0 R).Ok 8:=by
 cases β <;> exact Rg.ok _ 8 [3,5,6] ⟨.load _ 3 0 1, .index _ 5 gv ys.length cv i hin, .elem _ 6 1 i hyi,trivial⟩
theorem cdRm6 (β:Bool):IsSq (BRemove β) [1,1,0,1,2,1] 6:=by cases β <;> exact isq (by kernel_rfl)
noncomputable def gRm7 (β:Bool) (b gv cv n2 c2 i:Nat) (ks:Value) (a2:Option Addr) (xs ys:List Value):=rg Tryz.prog (BRemove β) 7 136 [(32,22)] [(1,pV b 0),(8,nV i)] (Vq 0 32 [Kp b 0,Kp b 0,Kp b 0,Kp b 0,Kp b 0,Kv ks,Kn i,Kn i,Kn (i+1),Vf.slice,Kp b 0,Kp b 0,Kp b 1,Ks gv ys.length cv,Kn i,Kn i,Kn (i+1),Vf.slice,Kp b 0,Kp b 0]++Vq 21 52 [Kp b 0,Kp b 1]) [.blk b (tN β) [⟨ks,[(20, .s 41)]⟩,⟨sV gv ys.length cv,[(23, .s 49)]⟩,⟨.slice a2 n2 c2,[]⟩], .sl (tK β) (ks) xs [(9,some (.s 41),(xs.eraseIdx i))], .sl (tV β) (sV gv ys.length cv) ys [(17,some (.s 49),(ys.eraseIdx i))]]
theorem obRm7 (β:Bool) (b gv cv n2 c2 i:Nat) (ks:Value) (a2:Option Addr) (xs ys:List Value) (hix:i < xs.length) (hiy:i < ys.length) (hlx:xs.length < 1099511627776) (hly:ys.length < 1099511627776) (h1x:∀u∈xs,u.oneCell'=true) (h1y:∀u∈ys,u.oneCell'=true) (w0:World) (fp0:List Nat) (R:List Asn):(gRm7 β b gv cv n2 c2 i ks a2 xs ys w0 fp0 R).Ok 24:=by
 cases β <;> exact Rg.ok _ 24 [5,8,9,13,16,17,20,23] ⟨.load _ 5 0 0, .add _ 8 (i) (1) ((i+1:Nat):Int), .del _ 9 1 i _ xs (delK_spec _) hix hlx h1x, .load _ 13 0 1, .add _ 16 (i) (1) ((i+1:Nat):Int), .del _ 17 2 i _ ys (delV_spec _) hiy hly h1y, .store _ 20 0 0, .store _ 23 0 1,trivial⟩
theorem cdRm7 (β:Bool):IsSq (BRemove β) [1,1,0,1,2,1,1] 7:=by cases β <;> exact isq (by kernel_rfl)
noncomputable def gRm8 (β:Bool) (y:Value):=rg Tryz.prog (BRemove β) 8 136 [(54,1),(6,2)] [(11,y)] (Vq 0 54 [Kv y]++Vq 1 6 [Kv y,Kv (.bool true)]) []
theorem obRm8 (β:Bool) (y:Value)  (w0:World) (fp0:List Nat) (R:List Asn):(gRm8 β y w0 fp0 R).Ok 3:=by
 cases β <;> exact Rg.ok _ 3 [] trivial
theorem cdRm8 (β:Bool):IsSq (BRemove β) [1,1,0,1,2,1,1,1] 8:=by cases β <;> exact isq (by kernel_rfl)
theorem isRetRm4 (β:Bool):isRet (csnd (csnd (csnd (csnd (cthen (csnd (cfst (csnd (csnd (bodyC (BRemove β)))))))))))=true:=by cases β <;> exact kr (by kernel_rfl)
theorem isSkipRm5 (β:Bool):isSkip (celse (csnd (cfst (csnd (csnd (bodyC (BRemove β)))))))=true:=by cases β <;> exact kr (by kernel_rfl)
noncomputable def gRm9 (β:Bool)  :=rg Tryz.prog (BRemove β) 9 136 [(12,1)] [] (Vq 0 12 [Kv (encV (va0 β))]) []
theorem obRm9 (β:Bool)   (w0:World) (fp0:List Nat) (R:List Asn):(gRm9 β  w0 fp0 R).Ok 1:=by
 cases β <;> exact Rg.ok _ 1 [] trivial
theorem cdRm9 (β:Bool):IsSq (BRemove β) [1,1,1] 9:=by cases β <;> exact isq (by kernel_rfl)
noncomputable def gRm10 (β:Bool) (q:Bool):=rg Tryz.prog (BRemove β) 10 136 [(55,1),(13,1)] [(9, .bool q)] (Vq 0 55 [Kv (.bool q)]++Vq 1 13 [Kv (.bool q)]) []
theorem obRm10 (β:Bool) (q:Bool)  (w0:World) (fp0:List Nat) (R:List Asn):(gRm10 β q w0 fp0 R).Ok 2:=by
 cases β <;> exact Rg.ok _ 2 [] trivial
theorem cdRm10 (β:Bool):IsSq (BRemove β) [1,1,1,1] 10:=by cases β <;> exact isq (by kernel_rfl)
theorem sqRm6 (β:Bool):Sq (BRemove β) [1,1,1,1,1]:=by cases β <;> exact isQ (by kernel_rfl)
noncomputable def gRm11 (β:Bool) (q:Bool):=rg Tryz.prog (BRemove β) 11 136 [(56,1)] [(9, .bool q)] (Vq 0 56 [Kv (.bool q)]) []
theorem obRm11 (β:Bool) (q:Bool)  (w0:World) (fp0:List Nat) (R:List Asn):(gRm11 β q w0 fp0 R).Ok 1:=by
 cases β <;> exact Rg.ok _ 1 [] trivial
theorem cdRm11 (β:Bool):IsSq (BRemove β) [1,1,1,1,1,0] 11:=by cases β <;> exact isq (by kernel_rfl)
theorem ccRm56 (β:Bool):isCond (csnd (cfst (csnd (csnd (csnd (csnd (csnd (bodyC (BRemove β)))))))))=true∧ccond (csnd (cfst (csnd (csnd (csnd (csnd (csnd (bodyC (BRemove β)))))))))=.tmp 56:=by cases β <;> exact ⟨kr (by kernel_rfl),kr (by kernel_rfl)⟩
noncomputable def gRm12 (β:Bool) (b gk ck gv cv gp n2 c2 i:Nat) (y:Value) (xs ys:List Value):=rg Tryz.prog (BRemove β) 12 136 [(57,7),(12,1)] [(1,pV b 0),(8,nV i)] (Vq 0 57 [Kp b 0,Kp b 0,Kp b 1,Ks gv ys.length cv,Kn i,Kp gv i,Kv y]++Vq 7 12 [Kv y]) [Bk b (tN β) [sV gk xs.length ck,sV gv ys.length cv,sV gp n2 c2], .sl (tV β) (sV gv ys.length cv) ys []]
theorem obRm12 (β:Bool) (b gk ck gv cv gp n2 c2 i:Nat) (y:Value) (xs ys:List Value) (hin:i < ys.length) (hyi:ys[i]? =some y) (w0:World) (fp0:List Nat) (R:List Asn):(gRm12 β b gk ck gv cv gp n2 c2 i y xs ys w0 fp0 R).Ok 8:=by
 cases β <;> exact Rg.ok _ 8 [3,5,6] ⟨.load _ 3 0 1, .index _ 5 gv ys.length cv i hin, .elem _ 6 1 i hyi,trivial⟩
theorem cdRm12 (β:Bool):IsSq (BRemove β) [1,1,1,1,1,0,1,2] 12:=by cases β <;> exact isq (by kernel_rfl)
noncomputable def gRm13 (β:Bool) (b gk ck gv cv gp n2 c2 i cb:Nat) (mk mv:Value) (xs ys zs:List Value) (T0:Asn):=rg Tryz.prog (BRemove β) 13 136 [(65,18),(64,1),(83,4)] [(1,pV b 0),(8,nV i)] (Vq 0 65 [Kp b 0,Kp b 0,Kp b 0,Ks gk xs.length ck,Kn i,Kp b 0,Kp b 0,Kp b 1,Ks gv ys.length cv,Kn i,Kp b 0,Kp b 0,Kp b 2,Ks gp n2 c2,Kn i,Kp gp i,Kp cb 0,Kv (.tuple #[mk,mv])]++Vq 18 64 [Kv (.tuple #[mk,mv])]++Vq 19 83 [Kv mk,Kv mv,Kp gk i]++Vq 23 86 [Kp gv i]) [Bk b (tN β) [sV gk xs.length ck,sV gv ys.length cv,sV gp n2 c2], .sl (tK β) (sV gk xs.length ck) xs [(22,none,(xs.set i mk))], .sl (tV β) (sV gv ys.length cv) ys [(24,none,(ys.set i mv))], .sl (tP β) (sV gp n2 c2) zs [], .all (T0)]
theorem obRm13 (β:Bool) (b gk ck gv cv gp n2 c2 i cb:Nat) (mk mv:Value) (xs ys zs:List Value) (T0:Asn) (hi:i < n2) (hzi:zs[i]? =some (ptrV cb)) (hix:i < xs.length) (hiy:i < ys.length) (h1k:mk.oneCell'=true) (h1v:mv.oneCell'=true) (hmax:∀(w0:World) (fp0:List Nat) (R:List Asn) (w:World),St w0 fp0 ([T0]++R) w→Calls Tryz.prog (fMax β) #[ptrV cb] w fun e w'=> e=.returned (.tuple #[mk,mv])∧St w0 fp0 ([T0]++R) w') (w0:World) (fp0:List Nat) (R:List Asn):(gRm13 β b gk ck gv cv gp n2 c2 i cb mk mv xs ys zs T0 w0 fp0 R).Ok 25:=by
 have h13:∀w,St w0 fp0 ([blkA b (tN β) #[.slice (some ⟨gk,0,none⟩) xs.length ck, .slice (some ⟨gv,0,none⟩) ys.length cv, .slice (some ⟨gp,0,none⟩) n2 c2],slA (tK β) (.slice (some ⟨gk,0,none⟩) xs.length ck) xs,slA (tV β) (.slice (some ⟨gv,0,none⟩) ys.length cv) ys,slA (tP β) (.slice (some ⟨gp,0,none⟩) n2 c2) zs,T0]++R) w→Calls Tryz.prog (fMax β) #[ptrV cb] w fun e w'=> e=.returned (.tuple #[mk,mv])∧St w0 fp0 ([blkA b (tN β) #[.slice (some ⟨gk,0,none⟩) xs.length ck, .slice (some ⟨gv,0,none⟩) ys.length cv, .slice (some ⟨gp,0,none⟩) n2 c2],slA (tK β) (.slice (some ⟨gk,0,none⟩) xs.length ck) xs,slA (tV β) (.slice (some ⟨gv,0,none⟩) ys.length cv) ys,slA (tP β) (.slice (some ⟨gp,0,none⟩) n2 c2) zs,T0]++R) w':=fun w h=> (hmax _ _ _ w (St_re (L:=[_,_,_,_,_]) h [4] [0,1,2,3] (by kernel_rfl))).mono fun e w' ⟨h1,h2⟩=> ⟨h1,St_re (L:=[_,_,_,_,_]) h2 [1,2,3,4,0] [] (by kernel_rfl)⟩
 cases β <;> exact Rg.ok _ 25 [3,8,13,15,16,17,21,22,23,24] ⟨.load _ 3 0 0, .load _ 8 0 1, .load _ 13 0 2, .index _ 15 gp n2 c2 i hi, .elem _ 16 3 i hzi, .callF _ 17 _ _ h13, .index _ 21 gk xs.length ck i hix, .storeEl _ 22 1 i xs hix mk h1k, .index _ 23 gv ys.length cv i hiy, .storeEl _ 24 2 i ys hiy mv h1v,trivial⟩
theorem cdRm13 (β:Bool):IsSq (BRemove β) [1,1,1,1,1,0,1,2,1] 13:=by cases β <;> exact isq (by kernel_rfl)
noncomputable def gRm14 (β:Bool) (b gk ck gv cv gp n2 c2 i cb tb o:Nat) (r nn mk ov1:Value) (was1:Bool) (xs ys zs:List Value) (T0 T1:Asn):=rg Tryz.prog (BRemove β) 14 136 [(87,16)] [(0,pV tb 0),(1,pV b 0),(8,nV i)] (Vq 0 87 [Kp tb 0,Kp b 0,Kp b 0,Kp b 2,Ks gp n2 c2,Kn i,Kp gp i,Kp cb 0,Kp b 0,Kp b 0,Kp b 0,Ks gk xs.length ck,Kn i,Kp gk i,Kv mk,Kv (.tuple #[ov1, .bool was1])]) [Bk b (tN β) [sV gk xs.length ck,sV gv ys.length cv,sV gp n2 c2], .sl (tK β) (sV gk xs.length ck) (xs.set i mk) [], .sl (tP β) (sV gp n2 c2) zs [], .gen [15] [] fun L _g=> match L 15 with | true=> T1 | false=> T0,Bk tb (tT β) [r,nV o,nn]]
theorem obRm14 (β:Bool) (b gk ck gv cv gp n2 c2 i cb tb o:Nat) (r nn mk ov1:Value) (was1:Bool) (xs ys zs:List Value) (T0 T1:Asn) (hi:i < n2) (hzi:zs[i]? =some (ptrV cb)) (hix:i < xs.length) (hmi:(xs.set i mk)[i]? =some mk) (hrm:∀(w0:World) (fp0:List Nat) (R:List Asn) (w:World),St w0 fp0 ([T0,blkA tb (tT β) #[r, .int .i64 o,nn]]++R) w→Calls Tryz.prog (fRemove β) #[ptrV tb,ptrV cb,mk] w fun e w'=> e=.returned (.tuple #[ov1, .bool was1])∧St w0 fp0 ([T1,blkA tb (tT β) #[r, .int .i64 o,nn]]++R) w') (w0:World) (fp0:List Nat) (R:List Asn):(gRm14 β b gk ck gv cv gp n2 c2 i cb tb o r nn mk ov1 was1 xs ys zs T0 T1 w0 fp0 R).Ok 16:=by
 have h15:∀w,St w0 fp0 ([blkA b (tN β) #[.slice (some ⟨gk,0,none⟩) xs.length ck, .slice (some ⟨gv,0,none⟩) ys.length cv, .slice (some ⟨gp,0,none⟩) n2 c2],slA (tK β) (.slice (some ⟨gk,0,none⟩) xs.length ck) (xs.set i mk),slA (tP β) (.slice (some ⟨gp,0,none⟩) n2 c2) zs,T0,blkA tb (tT β) #[r, .int .i64 o,nn]]++R) w→Calls Tryz.prog (fRemove β) #[ptrV tb,ptrV cb,mk] w fun e w'=> e=.returned (.tuple #[ov1, .bool was1])∧St w0 fp0 ([blkA b (tN β) #[.slice (some ⟨gk,0,none⟩) xs.length ck, .slice (some ⟨gv,0,none⟩) ys.length cv, .slice (some ⟨gp,0,none⟩) n2 c2],slA (tK β) (.slice (some ⟨gk,0,none⟩) xs.length ck) (xs.set i mk),slA (tP β) (.slice (some ⟨gp,0,none⟩) n2 c2) zs,T1,blkA tb (tT β) #[r, .int .i64 o,nn]]++R) w':=fun w h=> (hrm _ _ _ w (St_re (L:=[_,_,_,_,_]) h [3,4] [0,1,2] (by kernel_rfl))).mono fun e w' ⟨h1,h2⟩=> ⟨h1,St_re (L:=[_,_,_,_,_]) h2 [2,3,4,0,1] [] (by kernel_rfl)⟩
 cases β <;> exact Rg.ok _ 16 [4,6,7,11,13,14,15] ⟨.load _ 4 0 2, .index _ 6 gp n2 c2 i hi, .elem _ 7 2 i hzi, .load _ 11 0 0, .index _ 13 gk xs.length ck i hix, .elem _ 14 1 i hmi, .callF _ 15 _ _ h15,trivial⟩
theorem cdRm14 (β:Bool):IsRg (BRemove β) [1,1,1,1,1,0,1,2,1,1] 14:=by cases β <;> exact irg (by kernel_rfl)
noncomputable def gRm15 (β:Bool) (b gp n2 c2 i cb tb o:Nat) (ks vs r nn kk ov:Value) (was:Bool) (zs:List Value) (T0 T1:Asn):=rg Tryz.prog (BRemove β) 15 136 [(104,10),(103,1),(114,2),(12,2)] [(0,pV tb 0),(1,pV b 0),(8,nV i),(2,kk)] (Vq 0 104 [Kp tb 0,Kp b 0,Kp b 0,Kp b 2,Ks gp n2 c2,Kn i,Kp gp i,Kp cb 0,Kv kk,Kv (.tuple #[ov, .bool was])]++Vq 10 103 [Kv (.tuple #[ov, .bool was])]++Vq 11 114 [Kv ov,Kv (.bool was)]++Vq 13 12 [Kv ov,Kv (.bool was)]) [Bk b (tN β) [ks,vs,sV gp n2 c2], .sl (tP β) (sV gp n2 c2) zs [], .gen [9] [] fun L _g=> match L 9 with | true=> T1 | false=> T0,Bk tb (tT β) [r,nV o,nn]]
theorem obRm15 (β:Bool) (b gp n2 c2 i cb tb o:Nat) (ks vs r nn kk ov:Value) (was:Bool) (zs:List Value) (T0 T1:Asn) (hi:i < n2) (hzi:zs[i]? =some (ptrV cb)) (hrm:∀(w0:World) (fp0:List Nat) (R:List Asn) (w:World),St w0 fp0 ([T0,blkA tb (tT β) #[r, .int .i64 o,nn]]++R) w→Calls Tryz.prog (fRemove β) #[ptrV tb,ptrV cb,kk] w fun e w'=> e=.returned (.tuple #[ov, .bool was])∧St w0 fp0 ([T1,blkA tb (tT β) #[r, .int .i64 o,nn]]++R) w') (w0:World) (fp0:List Nat) (R:List Asn):(gRm15 β b gp n2 c2 i cb tb o ks vs r nn kk ov was zs T0 T1 w0 fp0 R).Ok 15:=by
 have h9:∀w,St w0 fp0 ([blkA b (tN β) #[ks,vs, .slice (some ⟨gp,0,none⟩) n2 c2],slA (tP β) (.slice (some ⟨gp,0,none⟩) n2 c2) zs,T0,blkA tb (tT β) #[r, .int .i64 o,nn]]++R) w→Calls Tryz.prog (fRemove β) #[ptrV tb,ptrV cb,kk] w fun e w'=> e=.returned (.tuple #[ov, .bool was])∧St w0 fp0 ([blkA b (tN β) #[ks,vs, .slice (some ⟨gp,0,none⟩) n2 c2],slA (tP β) (.slice (some ⟨gp,0,none⟩) n2 c2) zs,T1,blkA tb (tT β) #[r, .int .i64 o,nn]]++R) w':=fun w h=> (hrm _ _ _ w (St_re (L:=[_,_,_,_]) h [2,3] [0,1] (by kernel_rfl))).mono fun e w' ⟨h1,h2⟩=> ⟨h1,St_re (L:=[_,_,_,_]) h2 [2,3,0,1] [] (by kernel_rfl)⟩
 cases β <;> exact Rg.ok _ 15 [4,6,7,9] ⟨.load _ 4 0 2, .index _ 6 gp n2 c2 i hi, .elem _ 7 1 i hzi, .callF _ 9 _ _ h9,trivial⟩
theorem cdRm15 (β:Bool):IsRg (BRemove β) [1,1,1,1,1,0,1,3] 15:=by cases β <;> exact irg (by kernel_rfl)
theorem sqRm7 (β:Bool):Sq (BRemove β) [1,1,1,1,1,1]:=by cases β <;> exact isQ (by kernel_rfl)
noncomputable def gRm16 (β:Bool) (b gp n2 c2 i cb o tb m:Nat) (ks vs r nn:Value) (zs:List Value) (T1:Asn):=rg Tryz.prog (BRemove β) 16 136 [(116,14)] [(1,pV b 0),(8,nV i),(0,pV tb 0)] (Vq 0 116 [Kp b 0,Kp b 0,Kp b 2,Ks gp n2 c2,Kn i,Kp gp i,Kp cb 0,Kp cb 0,Kp cb 0,Fv [125] fun g=> .slice (sa (g 125)) m (sc (g 125)),Kn m,Kp tb 0,Kn (least o),Kv (.bool (decide (m < least o)))]) [Bk b (tN β) [ks,vs,sV gp n2 c2], .sl (tP β) (sV gp n2 c2) zs [], .all (T1),Bk tb (tT β) [r,nV o,nn]]
theorem obRm16 (β:Bool) (b gp n2 c2 i cb o tb m:Nat) (ks vs r nn:Value) (zs:List Value) (T1:Asn) (ho:3≤o) (ho':o≤1024) (hi:i < n2) (hzi:zs[i]? =some (ptrV cb)) (hlook:∀w f,T1.p w f→∃ka kc,w.cell? ⟨cb,0,none⟩=some (.slice ka m kc)) (w0:World) (fp0:List Nat) (R:List Asn):(gRm16 β b gp n2 c2 i cb o tb m ks vs r nn zs T1 w0 fp0 R).Ok 14:=by
 cases β <;> exact Rg.ok _ 14 [3,5,6,9,12,13] ⟨.load _ 3 0 2, .index _ 5 gp n2 c2 i hi, .elem _ 6 1 i hzi, .loadBy _ 9 2 (fun w f h=> let ⟨_,_,e⟩:=hlook w f h;⟨_,e,fun _=> rfl⟩),(.ask1 _ 12 3 (fun w fp h=> (least_calls tb _ o _ w ho ho' h).mono fun e w' ⟨h1,h2⟩=> ⟨h1,h2 ▸ Below.refl _ _⟩)), .lss _ 13 m (least o),trivial⟩
theorem cdRm16 (β:Bool):IsSq (BRemove β) [1,1,1,1,1,1,0] 16:=by cases β <;> exact isq (by kernel_rfl)
theorem ccRm129 (β:Bool):isCond (csnd (cfst (csnd (csnd (csnd (csnd (csnd (csnd (bodyC (BRemove β))))))))))=true∧ccond (csnd (cfst (csnd (csnd (csnd (csnd (csnd (csnd (bodyC (BRemove β))))))))))=.tmp 129:=by cases β <;> exact ⟨kr (by kernel_rfl),kr (by kernel_rfl)⟩
noncomputable def gRm17 (β:Bool) (tb b i:Nat) (X0 X1:Asn):=rg Tryz.prog (BRemove β) 17 136 [(130,4)] [(0,pV tb 0),(1,pV b 0),(8,nV i)] (Vq 0 130 [Kp tb 0,Kp b 0,Kn i,Kv (.tuple #[])]) [.gen [3] [] fun L _g=> match L 3 with | true=> X1 | false=> X0]
theorem obRm17 (β:Bool) (tb b i:Nat) (X0 X1:Asn) (hs:∀(w0:World) (fp0:List Nat) (R:List Asn) (w:World),St w0 fp0 ([X0]++R) w→Calls Tryz.prog (fFill β) #[ptrV tb,ptrV b, .int .i64 i] w fun e w'=> e=.returned (.tuple #[])∧St w0 fp0 ([X1]++R) w') (w0:World) (fp0:List Nat) (R:List Asn):(gRm17 β tb b i X0 X1 w0 fp0 R).Ok 4:=by
 cases β <;> exact Rg.ok _ 4 [3] ⟨.callF _ 3 [X0] [X1] (fun w h=> hs _ _ _ w h),trivial⟩
theorem cdRm17 (β:Bool):IsRg (BRemove β) [1,1,1,1,1,1,0,1,2] 17:=by cases β <;> exact irg (by kernel_rfl)
theorem isSkipRm8 (β:Bool):isSkip (celse (csnd (cfst (csnd (csnd (csnd (csnd (csnd (csnd (bodyC (BRemove β)))))))))))=true:=by cases β <;> exact kr (by kernel_rfl)
noncomputable def gRm18 (β:Bool) (rv:Value) (rb:Bool):=rg Tryz.prog (BRemove β) 18 136 [(134,2),(6,2)] [(12,rv),(13, .bool rb)] (Vq 0 134 [Kv rv,Kv (.bool rb)]++Vq 2 6 [Kv rv,Kv (.bool rb)]) []
theorem obRm18 (β:Bool) (rv:Value) (rb:Bool)  (w0:World) (fp0:List Nat) (R:List Asn):(gRm18 β rv rb w0 fp0 R).Ok 4:=by
 cases β <;> exact Rg.ok _ 4 [] trivial
theorem cdRm18 (β:Bool):IsSq (BRemove β) [1,1,1,1,1,1,1] 18:=by cases β <;> exact isq (by kernel_rfl)
theorem isRetRm9 (β:Bool):isRet (csnd (csnd (csnd (csnd (csnd (csnd (csnd (csnd (bodyC (BRemove β))))))))))=true:=by cases β <;> exact kr (by kernel_rfl)
set_option maxHeartbeats 4000000 in
theorem remove_flat (β:Bool) (tb o b i n2 c2 cb m:Nat) (r nn ks vs kk y mk mv ov ov1 rv:Value) (q was was1 rb:Bool) (a2:Option Addr) (xs ys xs' ys' zs:List Value) (T0 T1 T2 TF:Asn) (ho:3≤o) (ho':o≤1024) (hi:i≤xs.length) (hxy:ys.length=xs.length) (hlx:xs.length < 1099511627776) (h1x:∀u∈xs,u.oneCell'=true) (h1y:∀u∈ys,u.oneCell'=true) (h1k:mk.oneCell'=true) (h1v:mv.oneCell'=true) (hn2:n2=zs.length)
 (hfind:∀w fp fp',(blkA b (tN β) #[ks,vs, .slice a2 n2 c2]).p w fp→(slA (tK β) ks xs).p w fp'→Calls Tryz.prog (fFind β) #[ptrV b,kk] w fun e w'=> e=.returned (.tuple #[.int .i64 i, .bool q])∧Below w.heap.size w w')
 (hy:q=true→xs[i]?.isSome=true∧ys[i]? =some y) (hz:n2≠0→zs[i]? =some (ptrV cb))
 (hmax:q=true→n2≠0→∀(w0:World) (fp0:List Nat) (R:List Asn) (w:World),St w0 fp0 ([T0]++R) w→Calls Tryz.prog (fMax β) #[ptrV cb] w fun e w'=> e=.returned (.tuple #[mk,mv])∧St w0 fp0 ([T0]++R) w')
 (hrm1:q=true→n2≠0→∀(w0:World) (fp0:List Nat) (R:List Asn) (w:World),St w0 fp0 ([T0,blkA tb (tT β) #[r, .int .i64 o,nn]]++R) w→Calls Tryz.prog (fRemove β) #[ptrV tb,ptrV cb,mk] w fun e w'=> e=.returned (.tuple #[ov1, .bool was1])∧St w0 fp0 ([T1,blkA tb (tT β) #[r, .int .i64 o,nn]]++R) w')
 (hrm0:q=false→n2≠0→∀(w0:World) (fp0:List Nat) (R:List Asn) (w:World),St w0 fp0 ([T0,blkA tb (tT β) #[r, .int .i64 o,nn]]++R) w→Calls Tryz.prog (fRemove β) #[ptrV tb,ptrV cb,kk] w fun e w'=> e=.returned (.tuple #[ov, .bool was])∧St w0 fp0 ([T1,blkA tb (tT β) #[r, .int .i64 o,nn]]++R) w')
 (hlook:n2≠0→∀w f,T1.p w f→∃ka kc,w.cell? ⟨cb,0,none⟩=some (.slice ka m kc))
 (hx1:q=true→n2≠0→xs'=xs.set i mk) (hx0:q=false→n2≠0→xs'=xs) (hy1:q=true→n2≠0→ys'=ys.set i mv) (hy0:q=false→n2≠0→ys'=ys) (hr1:q=true→n2≠0→rv=y∧rb=true) (hr0:q=false→n2≠0→rv=ov∧rb=was)
 (hfill:n2≠0→m < least o→∀(w0:World) (fp0:List Nat) (R:List Asn) (w:World),St w0 fp0 ([blkA b (tN β) #[ks,vs, .slice a2 n2 c2],slA (tK β) ks xs',slA (tV β) vs ys',slA (tP β) (.slice a2 n2 c2) zs,T1,T2,blkA tb (tT β) #[r, .int .i64 o,nn]]++R) w→Calls Tryz.prog (fFill β) #[ptrV tb,ptrV b, .int .i64 i] w fun e w'=> e=.returned (.tuple #[])∧St w0 fp0 ([TF,blkA tb (tT β) #[r, .int .i64 o,nn]]++R) w')
 (Rr:Ending→World→Prop) (w0 w:World) (fp0:List Nat) (R:List Asn)
 (hN:q=false→n2=0→∀w',St w0 fp0 ([blkA b (tN β) #[ks,vs, .slice a2 n2 c2],slA (tK β) ks xs,slA (tV β) vs ys,blkA tb (tT β) #[r, .int .i64 o,nn],slA (tP β) (.slice a2 n2 c2) zs,T0,T2]++R) w'→Rr (.returned (.tuple #[encV (va0 β), .bool false])) w')
 (hL:q=true→n2=0→∀w' ks' vs',St w0 fp0 ([blkA b (tN β) #[ks',vs', .slice a2 n2 c2],slA (tK β) ks' (xs.eraseIdx i),slA (tV β) vs' (ys.eraseIdx i),blkA tb (tT β) #[r, .int .i64 o,nn],slA (tP β) (.slice a2 n2 c2) zs,T0,T2]++R) w'→Rr (.returned (.tuple #[y, .bool true])) w')
 (hI:n2≠0→¬ m < least o→∀w',St w0 fp0 ([blkA b (tN β) #[ks,vs, .slice a2 n2 c2],slA (tK β) ks xs',slA (tV β) vs ys',slA (tP β) (.slice a2 n2 c2) zs,T1,T2,blkA tb (tT β) #[r, .int .i64 o,nn]]++R) w'→Rr (.returned (.tuple #[rv, .bool rb])) w')
 (hJ:n2≠0→m < least o→∀w',St w0 fp0 ([TF,blkA tb (tT β) #[r, .int .i64 o,nn]]++R) w'→Rr (.returned (.tuple #[rv, .bool rb])) w')
 (hS:St w0 fp0 ([blkA tb (tT β) #[r,nV o,nn],blkA b (tN β) #[ks,vs, .slice a2 n2 c2],slA (tK β) (ks) xs,slA (tV β) (vs) ys,slA (tP β) (.slice a2 n2 c2) zs,T0,T2]++R) w):Calls Tryz.prog (fRemove β) #[ptrV tb,ptrV b,kk] w Rr:=by
 refine calls_T [(0,pV tb 0),(1,pV b 0),(2,kk)] (entRm β) (by simp) (by kernel_rfl) fun A0 K0=> ?_
 refine wp_seqT (cdRm0 β).sq ?_
 refine wp_regT (obRm0 β   _ _ _) (by kernel_rfl) (cdRm0 β).cd (K0.sub (by kernel_rfl)) (St_re hS [] [0,1,2,3,4,5,6] (by kernel_rfl)) fun A1 w1 N1 H1=> ?_
 have S1:St w0 fp0 ([blkA tb (tT β) #[r,nV o,nn],blkA b (tN β) #[ks,vs, .slice a2 n2 c2],slA (tK β) (ks) xs,slA (tV β) (vs) ys,slA (tP β) (.slice a2 n2 c2) zs,T0,T2]++R) w1:=H1
 have K1:Knows 136 A1 [(0,pV tb 0),(1,pV b 0),(2,kk),(6,encV (va0 β)),(7, .bool false)]:=N1.knows K0 (by kernel_rfl)
 refine wp_seqT (cdRm1 β).sq ?_
 refine wp_regT (obRm1 β b n2 c2 i ks vs kk q a2 xs hfind _ _ _) (by kernel_rfl) (cdRm1 β).cd (K1.sub (by kernel_rfl)) (St_re S1 [1,2] [0,3,4,5,6] (by kernel_rfl)) fun A2 w2 N2 H2=> ?_
 have S2:St w0 fp0 ([blkA b (tN β) #[ks,vs, .slice a2 n2 c2],slA (tK β) (ks) xs,blkA tb (tT β) #[r,nV o,nn],slA (tV β) (vs) ys,slA (tP β) (.slice a2 n2 c2) zs,T0,T2]++R) w2:=H2
 have K2:Knows 136 A2 [(0,pV tb 0),(1,pV b 0),(2,kk),(6,encV (va0 β)),(7, .bool false),(8,nV i),(9, .bool q)]:=N2.knows K1 (by kernel_rfl)
 refine wp_seqJ (sqRm0 β) (fun A w=> ∃(hn0:n2≠0),Knows 136 A [(0,pV tb 0),(1,pV b 0),(2,kk),(8,nV i),(9, .bool q)]∧St w0 fp0 ([blkA tb (tT β) #[r,nV o,nn],blkA b (tN β) #[ks,vs, .slice a2 n2 c2],slA (tK β) (ks) xs,slA (tV β) (vs) ys,slA (tP β) (.slice a2 n2 c2) zs,T0,T2]++R) w) ?_ ?_
 · skip
   refine wp_seqT (cdRm2 β).sq ?_
   refine wp_regT (obRm2 β b n2 c2 ks vs a2  _ _ _) (by kernel_rfl) (cdRm2 β).cd (K2.sub (by kernel_rfl)) (St_re S2 [0] [1,2,3,4,5,6] (by kernel_rfl)) fun A3 w3 N3 H3=> ?_
   have S3:St w0 fp0 ([blkA b (tN β) #[ks,vs, .slice a2 n2 c2],slA (tK β) (ks) xs,blkA tb (tT β) #[r,nV o,nn],slA (tV β) (vs) ys,slA (tP β) (.slice a2 n2 c2) zs,T0,T2]++R) w3:=H3
   have K3:Knows 136 A3 [(0,pV tb 0),(1,pV b 0),(2,kk),(6,encV (va0 β)),(7, .bool false),(8,nV i),(9, .bool q),(21, .bool (n2==0))]:=N3.knows K2 (by kernel_rfl)
   refine wp_condK (ccRm21 β) K3 (by rfl) (fun hq=> ?_) (fun hq=> ?_)
   · skip
     have hn0:n2=0:=by simpa using hq
     refine wp_seqJ (sqRm1 β) (fun A w=> ∃(hqt:q=true),Knows 136 A [(0,pV tb 0),(1,pV b 0),(8,nV i),(9, .bool q)]∧St w0 fp0 ([blkA tb (tT β) #[r,nV o,nn],blkA b (tN β) #[ks,vs, .slice a2 n2 c2],slA (tK β) (ks) xs,slA (tV β) (vs) ys,slA (tP β) (.slice a2 n2 c2) zs,T0,T2]++R) w) ?_ ?_
     · skip
       refine wp_seqT (cdRm3 β).sq ?_
       refine wp_regT (obRm3 β q  _ _ _) (by kernel_rfl) (cdRm3 β).cd (K3.sub (by kernel_rfl)) (St_re S3 [] [0,1,2,3,4,5,6] (by kernel_rfl)) fun A4 w4 N4 H4=> ?_
       have S4:St w0 fp0 ([blkA b (tN β) #[ks,vs, .slice a2 n2 c2],slA (tK β) (ks) xs,blkA tb (tT β) #[r,nV o,nn],slA (tV β) (vs) ys,slA (tP β) (.slice a2 n2 c2) zs,T0,T2]++R) w4:=H4
       have K4:Knows 136 A4 [(0,pV tb 0),(1,pV b 0),(2,kk),(6,encV (va0 β)),(7, .bool false),(8,nV i),(9, .bool q),(21, .bool (n2==0)),(23, .bool (!q))]:=N4.knows K3 (by kernel_rfl)
       refine wp_condK (ccRm23 β) K4 (by rfl) (fun hq=> ?_) (fun hq=> ?_)
       · skip
         have hqf:q=false:=by simpa using hq
         refine wp_seqT (cdRm4 β).sq ?_
         refine wp_regT (obRm4 β   _ _ _) (by kernel_rfl) (cdRm4 β).cd (K4.sub (by kernel_rfl)) (St_re S4 [] [0,1,2,3,4,5,6] (by kernel_rfl)) fun A5 w5 N5 H5=> ?_
         have S5:St w0 fp0 ([blkA b (tN β) #[ks,vs, .slice a2 n2 c2],slA (tK β) (ks) xs,blkA tb (tT β) #[r,nV o,nn],slA (tV β) (vs) ys,slA (tP β) (.slice a2 n2 c2) zs,T0,T2]++R) w5:=H5
         have K5:Knows 136 A5 [(0,pV tb 0),(1,pV b 0),(2,kk),(6,encV (va0 β)),(7, .bool false),(8,nV i),(9, .bool q),(21, .bool (n2==0)),(23, .bool (!q)),(10,encV (va0 β))]:=N5.knows K4 (by kernel_rfl)
         refine wp_seqT (cdRm5 β).sq ?_
         refine wp_regT (obRm5 β   _ _ _) (by kernel_rfl) (cdRm5 β).cd (K5.sub (by kernel_rfl)) (St_re S5 [] [0,1,2,3,4,5,6] (by kernel_rfl)) fun A6 w6 N6 H6=> ?_
         have S6:St w0 fp0 ([blkA b (tN β) #[ks,vs, .slice a2 n2 c2],slA (tK β) (ks) xs,blkA tb (tT β) #[r,nV o,nn],slA (tV β) (vs) ys,slA (tP β) (.slice a2 n2 c2) zs,T0,T2]++R) w6:=H6
         have K6:Knows 136 A6 [(0,pV tb 0),(1,pV b 0),(2,kk),(8,nV i),(9, .bool q),(21, .bool (n2==0)),(23, .bool (!q)),(10,encV (va0 β)),(6,encV (va0 β)),(7, .bool false)]:=N6.knows K5 (by kernel_rfl)
         refine wp_retT (isRetRm2 β) ?_
         refine post_T K6 (res2 (resRm β) K6 (by rfl) (by rfl)) ?_
         exact hN hqf hn0 _ (St_re S6 [0,1,3,2,4,5,6] [] (by kernel_rfl))
       · skip
         refine wp_skipT (isSkipRm3 β) ?_
         have hqt:q=true:=by simpa using hq
         exact ⟨hqt,K4.sub (by kernel_rfl),(St_re S4 [2,0,1,3,4,5,6] [] (by kernel_rfl))⟩
     · rintro A7 w7 ⟨hqt,K7,S7⟩
       obtain ⟨hyx,hyi⟩:=hy hqt
       have hin:i < ys.length:=(List.getElem?_eq_some_iff.1 hyi).1
       obtain ⟨_,q3⟩:=St.has S7 3 rfl
       obtain ⟨gv,cv,rfl,hc3, -⟩:=sl_some q3 (by omega)
       refine wp_seqT (cdRm6 β).sq ?_
       refine wp_regT (obRm6 β b gv cv n2 c2 i ks y a2 ys hin hyi _ _ _) (by kernel_rfl) (cdRm6 β).cd (K7.sub (by kernel_rfl)) (St_re S7 [1,3] [0,2,4,5,6] (by kernel_rfl)) fun A8 w8 N8 H8=> ?_
       have S8:St w0 fp0 ([blkA b (tN β) #[ks,sV gv ys.length cv, .slice a2 n2 c2],slA (tV β) (sV gv ys.length cv) ys,blkA tb (tT β) #[r,nV o,nn],slA (tK β) (ks) xs,slA (tP β) (.slice a2 n2 c2) zs,T0,T2]++R) w8:=H8
       have K8:Knows 136 A8 [(0,pV tb 0),(1,pV b 0),(8,nV i),(9, .bool q),(11,y)]:=N8.knows K7 (by kernel_rfl)
       refine wp_seqT (cdRm7 β).sq ?_
       refine wp_regT (obRm7 β b gv cv n2 c2 i ks a2 xs ys (by omega) hin hlx (by omega) h1x h1y _ _ _) (by kernel_rfl) (cdRm7 β).cd (K8.sub (by kernel_rfl)) (St_re S8 [0,3,1] [2,4,5,6] (by kernel_rfl)) fun A9 w9 N9 H9=> ?_
       have S9:St w0 fp0 ([blkA b (tN β) #[slots A9 41,slots A9 49, .slice a2 n2 c2],slA (tK β) (slots A9 41) (xs.eraseIdx i),slA (tV β) (slots A9 49) (ys.eraseIdx i),blkA tb (tT β) #[r,nV o,nn],slA (tP β) (.slice a2 n2 c2) zs,T0,T2]++R) w9:=H9
       have K9:Knows 136 A9 [(0,pV tb 0),(1,pV b 0),(8,nV i),(9, .bool q),(11,y)]:=N9.knows K8 (by kernel_rfl)
       refine wp_seqT (cdRm8 β).sq ?_
       refine wp_regT (obRm8 β y  _ _ _) (by kernel_rfl) (cdRm8 β).cd (K9.sub (by kernel_rfl)) (St_re S9 [] [0,1,2,3,4,5,6] (by kernel_rfl)) fun A10 w10 N10 H10=> ?_
       have S10:St w0 fp0 ([blkA b (tN β) #[slots A9 41,slots A9 49, .slice a2 n2 c2],slA (tK β) (slots A9 41) (xs.eraseIdx i),slA (tV β) (slots A9 49) (ys.eraseIdx i),blkA tb (tT β) #[r,nV o,nn],slA (tP β) (.slice a2 n2 c2) zs,T0,T2]++R) w10:=H10
       have K10:Knows 136 A10 [(0,pV tb 0),(1,pV b 0),(8,nV i),(9, .bool q),(11,y),(6,y),(7, .bool true)]:=N10.knows K9 (by kernel_rfl)
       refine wp_retT (isRetRm4 β) ?_
       refine post_T K10 (res2 (resRm β) K10 (by rfl) (by rfl)) ?_
       exact hL hqt hn0 _ _ _ (St_re S10 [0,1,2,3,4,5,6] [] (by kernel_rfl))
   · skip
     refine wp_skipT (isSkipRm5 β) ?_
     exact ⟨by simpa using hq,K3.sub (by kernel_rfl),(St_re S3 [2,0,1,3,4,5,6] [] (by kernel_rfl))⟩
 · rintro A11 w11 ⟨hn0,K11,S11⟩
   have hzi:=hz hn0
   have hzl:i < zs.length:=(List.getElem?_eq_some_iff.1 hzi).1
   obtain ⟨_,q5⟩:=St.has S11 4 rfl
   obtain ⟨gp,cp,ep,hpc, -⟩:=sl_some q5 (by omega)
   obtain ⟨rfl, -,rfl⟩:=Value.slice.inj ep
   refine wp_seqT (cdRm9 β).sq ?_
   refine wp_regT (obRm9 β   _ _ _) (by kernel_rfl) (cdRm9 β).cd (K11.sub (by kernel_rfl)) (St_re S11 [] [0,1,2,3,4,5,6] (by kernel_rfl)) fun A12 w12 N12 H12=> ?_
   have S12:St w0 fp0 ([blkA tb (tT β) #[r,nV o,nn],blkA b (tN β) #[ks,vs,sV gp n2 c2],slA (tK β) (ks) xs,slA (tV β) (vs) ys,slA (tP β) (sV gp n2 c2) zs,T0,T2]++R) w12:=H12
   have K12:Knows 136 A12 [(0,pV tb 0),(1,pV b 0),(2,kk),(8,nV i),(9, .bool q),(12,encV (va0 β))]:=N12.knows K11 (by kernel_rfl)
   refine wp_seqT (cdRm10 β).sq ?_
   refine wp_regT (obRm10 β q  _ _ _) (by kernel_rfl) (cdRm10 β).cd (K12.sub (by kernel_rfl)) (St_re S12 [] [0,1,2,3,4,5,6] (by kernel_rfl)) fun A13 w13 N13 H13=> ?_
   have S13:St w0 fp0 ([blkA tb (tT β) #[r,nV o,nn],blkA b (tN β) #[ks,vs,sV gp n2 c2],slA (tK β) (ks) xs,slA (tV β) (vs) ys,slA (tP β) (sV gp n2 c2) zs,T0,T2]++R) w13:=H13
   have K13:Knows 136 A13 [(0,pV tb 0),(1,pV b 0),(2,kk),(8,nV i),(9, .bool q),(12,encV (va0 β)),(13, .bool q)]:=N13.knows K12 (by kernel_rfl)
   refine wp_seqJ (sqRm6 β) (fun A w=> Knows 136 A [(0,pV tb 0),(1,pV b 0),(8,nV i),(12,rv),(13, .bool rb)]∧St w0 fp0 ([blkA tb (tT β) #[r,nV o,nn],blkA b (tN β) #[ks,vs,sV gp n2 c2],slA (tK β) (ks) (xs'),slA (tV β) (vs) (ys'),slA (tP β) (sV gp n2 c2) zs,T1,T2]++R) w) ?_ ?_
   · skip
     refine wp_seqT (cdRm11 β).sq ?_
     refine wp_regT (obRm11 β q  _ _ _) (by kernel_rfl) (cdRm11 β).cd (K13.sub (by kernel_rfl)) (St_re S13 [] [0,1,2,3,4,5,6] (by kernel_rfl)) fun A14 w14 N14 H14=> ?_
     have S14:St w0 fp0 ([blkA tb (tT β) #[r,nV o,nn],blkA b (tN β) #[ks,vs,sV gp n2 c2],slA (tK β) (ks) xs,slA (tV β) (vs) ys,slA (tP β) (sV gp n2 c2) zs,T0,T2]++R) w14:=H14
     have K14:Knows 136 A14 [(0,pV tb 0),(1,pV b 0),(2,kk),(8,nV i),(9, .bool q),(12,encV (va0 β)),(13, .bool q),(56, .bool q)]:=N14.knows K13 (by kernel_rfl)
     refine wp_condK (ccRm56 β) K14 (by rfl) (fun hq=> ?_) (fun hq=> ?_)
     · skip
       subst hq
       obtain rfl:=hx1 rfl hn0
       obtain rfl:=hy1 rfl hn0
       obtain ⟨e1,e2⟩:=hr1 rfl hn0
       obtain rfl:=e1.symm
       obtain rfl:=e2.symm
       obtain ⟨hyx,hyi⟩:=hy rfl
       have hin:i < ys.length:=(List.getElem?_eq_some_iff.1 hyi).1
       obtain ⟨_,q2⟩:=St.has S14 2 rfl
       obtain ⟨_,q3⟩:=St.has S14 3 rfl
       obtain ⟨gk,ck,rfl,hc2, -⟩:=sl_some q2 (by omega)
       obtain ⟨gv,cv,rfl,hc3, -⟩:=sl_some q3 (by omega)
       refine wp_seqT (cdRm12 β).sq ?_
       refine wp_regT (obRm12 β b gk ck gv cv gp n2 c2 i y xs ys hin hyi _ _ _) (by kernel_rfl) (cdRm12 β).cd (K14.sub (by kernel_rfl)) (St_re S14 [1,3] [0,2,4,5,6] (by kernel_rfl)) fun A15 w15 N15 H15=> ?_
       have S15:St w0 fp0 ([blkA b (tN β) #[sV gk xs.length ck,sV gv ys.length cv,sV gp n2 c2],slA (tV β) (sV gv ys.length cv) ys,blkA tb (tT β) #[r,nV o,nn],slA (tK β) (sV gk xs.length ck) xs,slA (tP β) (sV gp n2 c2) zs,T0,T2]++R) w15:=H15
       have K15:Knows 136 A15 [(0,pV tb 0),(1,pV b 0),(2,kk),(8,nV i),(9, .bool true),(13, .bool true),(56, .bool true),(12,y)]:=N15.knows K14 (by kernel_rfl)
       refine wp_seqT (cdRm13 β).sq ?_
       refine wp_regT (obRm13 β b gk ck gv cv gp n2 c2 i cb mk mv xs ys zs T0 (by omega) hzi (by omega) hin h1k h1v (hmax rfl hn0) _ _ _) (by kernel_rfl) (cdRm13 β).cd (K15.sub (by kernel_rfl)) (St_re S15 [0,3,1,4,5] [2,6] (by kernel_rfl)) fun A16 w16 N16 H16=> ?_
       have S16:St w0 fp0 ([blkA b (tN β) #[sV gk xs.length ck,sV gv ys.length cv,sV gp n2 c2],slA (tK β) (sV gk xs.length ck) (xs.set i mk),slA (tV β) (sV gv ys.length cv) (ys.set i mv),slA (tP β) (sV gp n2 c2) zs,T0,blkA tb (tT β) #[r,nV o,nn],T2]++R) w16:=H16
       have K16:Knows 136 A16 [(0,pV tb 0),(1,pV b 0),(2,kk),(8,nV i),(9, .bool true),(13, .bool true),(56, .bool true),(12,y)]:=N16.knows K15 (by kernel_rfl)
       have hmi:(xs.set i mk)[i]? =some mk:=by rw [List.getElem?_set_self (by omega)]
       obtain ⟨nk,hnk⟩:∃nk,xs.length=nk:=⟨_,rfl⟩
       refine wp_regT (obRm14 β b gk ck gv cv gp n2 c2 i cb tb o r nn mk ov1 was1 xs ys zs T0 T1 (by omega) hzi (by omega) hmi (hrm1 rfl hn0) _ _ _) (by kernel_rfl) (cdRm14 β).cd (K16.sub (by kernel_rfl)) (St_re S16 [0,1,3,4,5] [2,6] (by kernel_rfl)) fun A17 w17 N17 H17=> ?_
       have S17:St w0 fp0 ([blkA b (tN β) #[sV gk xs.length ck,sV gv ys.length cv,sV gp n2 c2],slA (tK β) (sV gk xs.length ck) (xs.set i mk),slA (tP β) (sV gp n2 c2) zs,T1,blkA tb (tT β) #[r,nV o,nn],slA (tV β) (sV gv ys.length cv) (ys.set i mv),T2]++R) w17:=H17
       have K17:Knows 136 A17 [(0,pV tb 0),(1,pV b 0),(2,kk),(8,nV i),(9, .bool true),(13, .bool true),(56, .bool true),(12,y)]:=N17.knows K16 (by kernel_rfl)
       exact ⟨K17.sub (by kernel_rfl),(St_re S17 [4,0,1,5,2,3,6] [] (by kernel_rfl))⟩
     · skip
       subst hq
       obtain rfl:=hx0 rfl hn0
       obtain rfl:=hy0 rfl hn0
       obtain ⟨e1,e2⟩:=hr0 rfl hn0
       obtain rfl:=e1.symm
       obtain rfl:=e2.symm
       refine wp_regT (obRm15 β b gp n2 c2 i cb tb o ks vs r nn kk ov was zs T0 T1 (by omega) hzi (hrm0 rfl hn0) _ _ _) (by kernel_rfl) (cdRm15 β).cd (K14.sub (by kernel_rfl)) (St_re S14 [1,4,5,0] [2,3,6] (by kernel_rfl)) fun A18 w18 N18 H18=> ?_
       have S18:St w0 fp0 ([blkA b (tN β) #[ks,vs,sV gp n2 c2],slA (tP β) (sV gp n2 c2) zs,T1,blkA tb (tT β) #[r,nV o,nn],slA (tK β) (ks) (xs'),slA (tV β) (vs) (ys'),T2]++R) w18:=H18
       have K18:Knows 136 A18 [(0,pV tb 0),(1,pV b 0),(2,kk),(8,nV i),(9, .bool false),(56, .bool false),(12,ov),(13, .bool was)]:=N18.knows K14 (by kernel_rfl)
       exact ⟨K18.sub (by kernel_rfl),(St_re S18 [3,0,4,5,1,2,6] [] (by kernel_rfl))⟩
   · rintro A19 w19 ⟨K19,S19⟩
     refine wp_seqJ (sqRm7 β) (fun A w=> ∃(Lx:List Asn) (hx:∀w',St w0 fp0 Lx w'→Rr (.returned (.tuple #[rv, .bool rb])) w'),Knows 136 A [(12,rv),(13, .bool rb)]∧St w0 fp0 ([]++Lx) w) ?_ ?_
     · skip
       refine wp_seqT (cdRm16 β).sq ?_
       refine wp_regT (obRm16 β b gp n2 c2 i cb o tb m ks vs r nn zs T1 ho ho' (by omega) hzi (hlook hn0) _ _ _) (by kernel_rfl) (cdRm16 β).cd (K19.sub (by kernel_rfl)) (St_re S19 [1,4,5,0] [2,3,6] (by kernel_rfl)) fun A20 w20 N20 H20=> ?_
       have S20:St w0 fp0 ([blkA b (tN β) #[ks,vs,sV gp n2 c2],slA (tP β) (sV gp n2 c2) zs,T1,blkA tb (tT β) #[r,nV o,nn],slA (tK β) (ks) (xs'),slA (tV β) (vs) (ys'),T2]++R) w20:=H20
       have K20:Knows 136 A20 [(0,pV tb 0),(1,pV b 0),(8,nV i),(12,rv),(13, .bool rb),(129, .bool (decide (m < least o)))]:=N20.knows K19 (by kernel_rfl)
       refine wp_condK (ccRm129 β) K20 (by rfl) (fun hq=> ?_) (fun hq=> ?_)
       · skip
         have hom:m < least o:=by simpa using hq
         have Sf:St w0 fp0 ([starA [blkA b (tN β) #[ks,vs,sV gp n2 c2],slA (tK β) (ks) (xs'),slA (tV β) (vs) (ys'),slA (tP β) (sV gp n2 c2) zs,T1,T2,blkA tb (tT β) #[r,nV o,nn]]]++R) w20:=St.star.2 (St_re S20 [0,4,5,1,2,6,3] [] (by kernel_rfl))
         refine wp_regT (obRm17 β tb b i (starA [blkA b (tN β) #[ks,vs,sV gp n2 c2],slA (tK β) (ks) (xs'),slA (tV β) (vs) (ys'),slA (tP β) (sV gp n2 c2) zs,T1,T2,blkA tb (tT β) #[r,nV o,nn]]) (starA [TF,blkA tb (tT β) #[r, .int .i64 o,nn]]) (fun w0 fp0 R w h=> (hfill hn0 hom w0 fp0 R w (St.star.1 h)).mono fun e w' ⟨h1,h2⟩=> ⟨h1,St.star.2 h2⟩) _ _ _) (by kernel_rfl) (cdRm17 β).cd (K20.sub (by kernel_rfl)) (St_re Sf [0] [] (by kernel_rfl)) fun A21 w21 N21 H21=> ?_
         have S21:St w0 fp0 ([starA [TF,blkA tb (tT β) #[r, .int .i64 o,nn]]]++R) w21:=H21
         have K21:Knows 136 A21 [(0,pV tb 0),(1,pV b 0),(8,nV i),(12,rv),(13, .bool rb),(129, .bool (decide (m < least o)))]:=N21.knows K20 (by kernel_rfl)
         exact ⟨_,hJ hn0 hom,K21.sub (by kernel_rfl),(St.star (L1:=[TF,blkA tb (tT β) #[r, .int .i64 o,nn]]) (L2:=R)).1 S21⟩
       · skip
         refine wp_skipT (isSkipRm8 β) ?_
         have hom:¬ m < least o:=by simpa using hq
         exact ⟨_,hI hn0 hom,K20.sub (by kernel_rfl),(St_re S20 [0,4,5,1,2,6,3] [] (by kernel_rfl))⟩
     · rintro A22 w22 ⟨Lx,hx,K22,S22⟩
       refine wp_seqT (cdRm18 β).sq ?_
       refine wp_regT (obRm18 β rv rb  _ _ _) (by kernel_rfl) (cdRm18 β).cd (K22.sub (by kernel_rfl)) (St_re S22 [] [] (by kernel_rfl)) fun A23 w23 N23 H23=> ?_
       have S23:St w0 fp0 ([]++Lx) w23:=H23
       have K23:Knows 136 A23 [(12,rv),(13, .bool rb),(6,rv),(7, .bool rb)]:=N23.knows K22 (by kernel_rfl)
       refine wp_retT (isRetRm9 β) ?_
       refine post_T K23 (res2 (resRm β) K23 (by rfl) (by rfl)) ?_
       exact hx _ S23
end Go.Proofs.YtpdlkdoogojboaaGreat
/- merge, over both trees. -/
namespace Go.Proofs.YtpdlkdoogojboaaGreat
open Go Go.RowKit
set_option maxRecDepth 100000
theorem entMe (β:Bool):Tryz.prog.funcs[fMerge β]? =some (BMerge β)∧(BMerge β).body=some (bodyC (BMerge β))∧(BMerge β).ntmps=111:=by cases β <;> exact ⟨kr (by kernel_rfl),kr (by kernel_rfl),kr (by kernel_rfl)⟩
noncomputable def gMe0 (β:Bool) (b lb rb i gk nk ck gv nv cv gp np cp:Nat) (zs:List Value):=rg Tryz.prog (BMerge β) 0 111 [(8,15),(6,2)] [(1,pV b 0),(2,nV i)] (Vq 0 8 [Kp b 0,Kp b 0,Kp b 2,Ks gp np cp,Kn i,Kp gp i,Kp lb 0,Kp b 0,Kp b 0,Kp b 2,Ks gp np cp,Kn i,Kn (i+1),Kp gp (i+1),Kp rb 0]++Vq 15 6 [Kp lb 0,Kp rb 0]) [Bk b (tN β) [sV gk nk ck,sV gv nv cv,sV gp np cp], .sl (tP β) (sV gp np cp) zs []]
theorem obMe0 (β:Bool) (b lb rb i gk nk ck gv nv cv gp np cp:Nat) (zs:List Value) (hi:i+1 < np) (hlb:zs[i]? =some (ptrV lb)) (hrb:zs[i+1]? =some (ptrV rb)) (hnp:np=zs.length)  (hlz:zs.length < 1099511627776) (w0:World) (fp0:List Nat) (R:List Asn):(gMe0 β b lb rb i gk nk ck gv nv cv gp np cp zs w0 fp0 R).Ok 17:=by
 cases β <;> exact Rg.ok _ 17 [3,5,6,10,12,13,14] ⟨.load _ 3 0 2, .index _ 5 gp np cp i (by omega), .elem _ 6 1 i hlb, .load _ 10 0 2, .add _ 12 (i) (1) ((i+1:Nat):Int), .index _ 13 gp np cp (i+1) hi, .elem _ 14 1 (i+1) hrb,trivial⟩
theorem cdMe0 (β:Bool):IsSq (BMerge β) [] 0:=by cases β <;> exact isq (by kernel_rfl)
noncomputable def gMe1 (β:Bool) (b lb rb i gk nk ck gv nv cv gp np cp:Nat) (lk lv lp rk rv rp y:Value) (xs lx rx:List Value):=rg Tryz.prog (BMerge β) 1 111 [(23,21)] [(6,pV lb 0),(1,pV b 0),(2,nV i),(7,pV rb 0)] (Vq 0 23 [Kp lb 0,Kp lb 0,Kp lb 0,Kp lb 0,Kv lk,Kp b 0,Kp b 0,Kp b 0,Ks gk nk ck,Kn i,Kp gk i,Kv y,Vf.box,Vf.slice,Kp rb 0,Kp rb 0,Kp rb 0,Kv rk,Vf.slice,Kp lb 0,Kp lb 0]) [.new 12 [35] fun g=> boxA (tK β) (g 35) y, .blk lb (tN β) [⟨lk,[(21, .s 41)]⟩,⟨lv,[]⟩,⟨lp,[]⟩], .sl (tK β) (lk) lx [(13,some (.s 36),(lx++[y])),(18,some (.s 41),(lx++[y]++rx))],Bk b (tN β) [sV gk nk ck,sV gv nv cv,sV gp np cp], .sl (tK β) (sV gk nk ck) xs [],Bk rb (tN β) [rk,rv,rp], .sl (tK β) (rk) rx []]
theorem obMe1 (β:Bool) (b lb rb i gk nk ck gv nv cv gp np cp:Nat) (lk lv lp rk rv rp y:Value) (xs lx rx:List Value) (hi:i < nk) (_hn:nk=xs.length) (hy:xs[i]? =some y) (h1y:y.oneCell'=true) (ha:lx.length+1+rx.length < 1099511627776) (h1r:∀u∈rx,u.oneCell'=true) (w0:World) (fp0:List Nat) (R:List Asn):(gMe1 β b lb rb i gk nk ck gv nv cv gp np cp lk lv lp rk rv rp y xs lx rx w0 fp0 R).Ok 22:=by
 cases β <;> exact Rg.ok _ 22 [4,8,10,11,12,13,17,18,21] ⟨.load _ 4 1 0, .load _ 8 3 0, .index _ 10 gk nk ck i hi, .elem _ 11 4 i hy, .box _ 12 0 h1y, .appB _ 13 0 2 lx (appK_spec _) (by omega) h1y, .load _ 17 5 0, .appC _ 18 6 2 (lx++[y]) rx (appK_spec _) (by simp;omega) h1r, .store _ 21 1 0,trivial⟩
theorem cdMe1 (β:Bool):IsSq (BMerge β) [1] 1:=by cases β <;> exact isq (by kernel_rfl)
noncomputable def gMe2 (β:Bool) (b lb rb i gk nk ck gv nv cv gp np cp:Nat) (mk dk:Nat) (ak:Option Addr) (_lk lv lp rk rv rp y:Value) (xs lx rx:List Value):=rg Tryz.prog (BMerge β) 2 111 [(44,21)] [(6,pV lb 0),(1,pV b 0),(2,nV i),(7,pV rb 0)] (Vq 0 44 [Kp lb 0,Kp lb 0,Kp lb 0,Kp lb 1,Kv lv,Kp b 0,Kp b 0,Kp b 1,Ks gv nv cv,Kn i,Kp gv i,Kv y,Vf.box,Vf.slice,Kp rb 0,Kp rb 0,Kp rb 1,Kv rv,Vf.slice,Kp lb 0,Kp lb 1]) [.new 12 [56] fun g=> boxA (tV β) (g 56) y, .blk lb (tN β) [⟨.slice ak mk dk,[]⟩,⟨lv,[(21, .s 62)]⟩,⟨lp,[]⟩], .sl (tV β) (lv) lx [(13,some (.s 57),(lx++[y])),(18,some (.s 62),(lx++[y]++rx))],Bk b (tN β) [sV gk nk ck,sV gv nv cv,sV gp np cp], .sl (tV β) (sV gv nv cv) xs [],Bk rb (tN β) [rk,rv,rp], .sl (tV β) (rv) rx []]
theorem obMe2 (β:Bool) (b lb rb i gk nk ck gv nv cv gp np cp:Nat) (mk dk:Nat) (ak:Option Addr) (lk lv lp rk rv rp y:Value) (xs lx rx:List Value) (hi:i < nv) (_hn:nv=xs.length) (hy:xs[i]? =some y) (h1y:y.oneCell'=true) (ha:lx.length+1+rx.length < 1099511627776) (h1r:∀u∈rx,u.oneCell'=true) (w0:World) (fp0:List Nat) (R:List Asn):(gMe2 β b lb rb i gk nk ck gv nv cv gp np cp mk dk ak lk lv lp rk rv rp y xs lx rx w0 fp0 R).Ok 22:=by
 cases β <;> exact Rg.ok _ 22 [4,8,10,11,12,13,17,18,21] ⟨.load _ 4 1 1, .load _ 8 3 1, .index _ 10 gv nv cv i hi, .elem _ 11 4 i hy, .box _ 12 0 h1y, .appB _ 13 0 2 lx (appV_spec _) (by omega) h1y, .load _ 17 5 1, .appC _ 18 6 2 (lx++[y]) rx (appV_spec _) (by simp;omega) h1r, .store _ 21 1 1,trivial⟩
theorem cdMe2 (β:Bool):IsSq (BMerge β) [1,1] 2:=by cases β <;> exact isq (by kernel_rfl)
noncomputable def gMe3 (β:Bool) (lb rb mk dk mv dv:Nat) (ak av:Option Addr) (lp rk rv rp:Value) (lz rz:List Value):=rg Tryz.prog (BMerge β) 3 111 [(65,12)] [(6,pV lb 0),(7,pV rb 0)] (Vq 0 65 [Kp lb 0,Kp lb 0,Kp lb 0,Kp lb 2,Kv lp,Kp rb 0,Kp rb 0,Kp rb 2,Kv rp,Vf.slice,Kp lb 0,Kp lb 2]) [.blk lb (tN β) [⟨.slice ak mk dk,[]⟩,⟨.slice av mv dv,[]⟩,⟨lp,[(12, .s 74)]⟩], .sl (tP β) (lp) lz [(9,some (.s 74),(lz++rz))],Bk rb (tN β) [rk,rv,rp], .sl (tP β) (rp) rz []]
theorem obMe3 (β:Bool) (lb rb mk dk mv dv:Nat) (ak av:Option Addr) (lp rk rv rp:Value) (lz rz:List Value) (ha:lz.length+rz.length < 1099511627776) (h1r:∀u∈rz,u.oneCell'=true) (w0:World) (fp0:List Nat) (R:List Asn):(gMe3 β lb rb mk dk mv dv ak av lp rk rv rp lz rz w0 fp0 R).Ok 13:=by
 cases β <;> exact Rg.ok _ 13 [4,8,9,12] ⟨.load _ 4 0 2, .load _ 8 2 2, .appS _ 9 3 1 lz rz (appP_spec _) ha h1r, .store _ 12 0 2,trivial⟩
theorem cdMe3 (β:Bool):IsSq (BMerge β) [1,1,1] 3:=by cases β <;> exact isq (by kernel_rfl)
noncomputable def gMe4 (β:Bool) (b i gk nk ck gv nv cv gp np cp:Nat) (xs ys:List Value):=rg Tryz.prog (BMerge β) 4 111 [(77,22)] [(1,pV b 0),(2,nV i)] (Vq 0 77 [Kp b 0,Kp b 0,Kp b 0,Kp b 0,Kp b 0,Ks gk nk ck,Kn i,Kn i,Kn (i+1),Vf.slice,Kp b 0,Kp b 0,Kp b 1,Ks gv nv cv,Kn i,Kn i,Kn (i+1),Vf.slice,Kp b 0,Kp b 0]++Vq 21 97 [Kp b 0,Kp b 1]) [.blk b (tN β) [⟨sV gk nk ck,[(20, .s 86)]⟩,⟨sV gv nv cv,[(23, .s 94)]⟩,⟨sV gp np cp,[]⟩], .sl (tK β) (sV gk nk ck) xs [(9,some (.s 86),(xs.eraseIdx i))], .sl (tV β) (sV gv nv cv) ys [(17,some (.s 94),(ys.eraseIdx i))]]
theorem obMe4 (β:Bool) (b i gk nk ck gv nv cv gp np cp:Nat) (xs ys:List Value) (hix:i < xs.length) (hiy:i < ys.length) (hlx:xs.length < 1099511627776) (hly:ys.length < 1099511627776) (h1x:∀u∈xs,u.oneCell'=true) (h1y:∀u∈ys,u.oneCell'=true) (w0:World) (fp0:List Nat) (R:List Asn):(gMe4 β b i gk nk ck gv nv cv gp np cp xs ys w0 fp0 R).Ok 24:=by
 cases β <;> exact Rg.ok _ 24 [5,8,9,13,16,17,20,23] ⟨.load _ 5 0 0, .add _ 8 (i) (1) ((i+1:Nat):Int), .del _ 9 1 i _ xs (delK_spec _) hix hlx h1x, .load _ 13 0 1, .add _ 16 (i) (1) ((i+1:Nat):Int), .del _ 17 2 i _ ys (delV_spec _) hiy hly h1y, .store _ 20 0 0, .store _ 23 0 1,trivial⟩
theorem cdMe4 (β:Bool):IsSq (BMerge β) [1,1,1,1] 4:=by cases β <;> exact isq (by kernel_rfl)
noncomputable def gMe5 (β:Bool) (b i fk hk fv hv gp np cp:Nat) (ek ev:Option Addr) (zs:List Value):=rg Tryz.prog (BMerge β) 5 111 [(99,12)] [(1,pV b 0),(2,nV i)] (Vq 0 99 [Kp b 0,Kp b 0,Kp b 0,Kp b 2,Ks gp np cp,Kn i,Kn (i+1),Kn i,Kn (i+2),Vf.slice,Kp b 0,Kp b 2]) [.blk b (tN β) [⟨.slice ek fk hk,[]⟩,⟨.slice ev fv hv,[]⟩,⟨sV gp np cp,[(12, .s 108)]⟩], .sl (tP β) (sV gp np cp) zs [(9,some (.s 108),(zs.eraseIdx (i+1)))]]
theorem obMe5 (β:Bool) (b i fk hk fv hv gp np cp:Nat) (ek ev:Option Addr) (zs:List Value) (hi:i+1 < zs.length) (hl:zs.length < 1099511627776) (h1:∀u∈zs,u.oneCell'=true) (w0:World) (fp0:List Nat) (R:List Asn):(gMe5 β b i fk hk fv hv gp np cp ek ev zs w0 fp0 R).Ok 13:=by
 cases β <;> exact Rg.ok _ 13 [4,6,8,9,12] ⟨.load _ 4 0 2, .add _ 6 (i) (1) ((i+1:Nat):Int), .add _ 8 (i) (2) ((i+2:Nat):Int), .del _ 9 1 (i+1) _ zs (delP_spec _) hi hl h1, .store _ 12 0 2,trivial⟩
theorem cdMe5 (β:Bool):IsRg (BMerge β) [1,1,1,1,1] 5:=by cases β <;> exact irg (by kernel_rfl)
theorem resMe (β:Bool):(BMerge β).results=#[]:=by cases β <;> exact kr (by kernel_rfl)
set_option maxHeartbeats 4000000 in
theorem merge_flat (β:Bool) (tb b lb rb i gk nk ck gv nv cv gp np cp:Nat) (lk lv lp rk rv rp ky vy:Value) (xs ys zs lx ly lz rx ry rz:List Value) (hnk:nk=xs.length) (hnv:nv=ys.length) (hnp:np=zs.length) (hky:xs[i]? =some ky) (hvy:ys[i]? =some vy) (hlb:zs[i]? =some (ptrV lb)) (hrb:zs[i+1]? =some (ptrV rb)) (hlx:xs.length < 1099511627776) (hly:ys.length < 1099511627776) (hlz:zs.length < 1099511627776)
 (hak:lx.length+1+rx.length < 1099511627776) (hav:ly.length+1+ry.length < 1099511627776) (hap:lz.length+rz.length < 1099511627776) (h1x:∀u∈xs,u.oneCell'=true) (h1y:∀u∈ys,u.oneCell'=true) (h1z:∀u∈zs,u.oneCell'=true) (h1rx:∀u∈rx,u.oneCell'=true) (h1ry:∀u∈ry,u.oneCell'=true) (h1rz:∀u∈rz,u.oneCell'=true) (w0 w:World) (fp0:List Nat) (R:List Asn)
 (hS:St w0 fp0 ([blkA b (tN β) #[sV gk nk ck,sV gv nv cv,sV gp np cp],slA (tK β) (sV gk nk ck) xs,slA (tV β) (sV gv nv cv) ys,slA (tP β) (sV gp np cp) zs,blkA lb (tN β) #[lk,lv,lp],slA (tK β) (lk) lx,slA (tV β) (lv) ly,slA (tP β) (lp) lz,blkA rb (tN β) #[rk,rv,rp],slA (tK β) (rk) rx,slA (tV β) (rv) ry,slA (tP β) (rp) rz]++R) w):Calls Tryz.prog (fMerge β) #[ptrV tb,ptrV b, .int .i64 i] w fun e w'=> e=.returned (.tuple #[])∧∃(ks' vs' ps' lk' lv' lp':Value),St w0 fp0 ([blkA b (tN β) #[ks',vs',ps'],slA (tK β) ks' (xs.eraseIdx i),slA (tV β) vs' (ys.eraseIdx i),slA (tP β) ps' (zs.eraseIdx (i+1)),
  blkA lb (tN β) #[lk',lv',lp'],slA (tK β) lk' (lx++[ky]++rx),slA (tV β) lv' (ly++[vy]++ry),slA (tP β) lp' (lz++rz)]++R) w':=by
 refine calls_T [(0,pV tb 0),(1,pV b 0),(2,nV i)] (entMe β) (by simp) (by kernel_rfl) fun A0 K0=> ?_
 refine wp_seqT (cdMe0 β).sq ?_
 refine wp_regT (obMe0 β b lb rb i gk nk ck gv nv cv gp np cp zs (by rw [hnp];exact (List.getElem?_eq_some_iff.1 hrb).1) hlb hrb hnp hlz _ _ _) (by kernel_rfl) (cdMe0 β).cd (K0.sub (by kernel_rfl)) (St_re hS [0,3] [1,2,4,5,6,7,8,9,10,11] (by kernel_rfl)) fun A1 w1 N1 H1=> ?_
 have S1:St w0 fp0 ([blkA b (tN β) #[sV gk nk ck,sV gv nv cv,sV gp np cp],slA (tP β) (sV gp np cp) zs,slA (tK β) (sV gk nk ck) xs,slA (tV β) (sV gv nv cv) ys,blkA lb (tN β) #[lk,lv,lp],slA (tK β) (lk) lx,slA (tV β) (lv) ly,slA (tP β) (lp) lz,blkA rb (tN β) #[rk,rv,rp],slA (tK β) (rk) rx,slA (tV β) (rv) ry,slA (tP β) (rp) rz]++R) w1:=H1
 have K1:Knows 111 A1 [(1,pV b 0),(2,nV i),(6,pV lb 0),(7,pV rb 0)]:=N1.knows K0 (by kernel_rfl)
 refine wp_seqT (cdMe1 β).sq ?_
 refine wp_regT (obMe1 β b lb rb i gk nk ck gv nv cv gp np cp lk lv lp rk rv rp ky xs lx rx (by rw [hnk];exact (List.getElem?_eq_some_iff.1 hky).1) hnk hky (h1x _ (List.mem_of_getElem? hky)) hak h1rx _ _ _) (by kernel_rfl) (cdMe1 β).cd (K1.sub (by kernel_rfl)) (St.emp.2 (St_re S1 [4,5,0,2,8,9] [1,3,6,7,10,11] (by kernel_rfl))) fun A2 w2 N2 H2=> ?_
 have S2:St w0 fp0 ([blkA lb (tN β) #[slots A2 41,lv,lp],slA (tK β) (slots A2 41) (lx++[ky]++rx),blkA b (tN β) #[sV gk nk ck,sV gv nv cv,sV gp np cp],slA (tK β) (sV gk nk ck) xs,blkA rb (tN β) #[rk,rv,rp],slA (tK β) (rk) rx,slA (tP β) (sV gp np cp) zs,slA (tV β) (sV gv nv cv) ys,slA (tV β) (lv) ly,slA (tP β) (lp) lz,slA (tV β) (rv) ry,slA (tP β) (rp) rz]++R) w2:=(St.drop H2)
 have K2:Knows 111 A2 [(1,pV b 0),(2,nV i),(6,pV lb 0),(7,pV rb 0)]:=N2.knows K1 (by kernel_rfl)
 obtain ⟨ak,mk,dk,e41⟩:∃a n c,slots A2 41=.slice a n c:=⟨_,_,_,N2.val 18 rfl⟩
 rw [e41] at S2
 refine wp_seqT (cdMe2 β).sq ?_
 refine wp_regT (obMe2 β b lb rb i gk nk ck gv nv cv gp np cp mk dk ak lk lv lp rk rv rp vy ys ly ry (by rw [hnv];exact (List.getElem?_eq_some_iff.1 hvy).1) hnv hvy (h1y _ (List.mem_of_getElem? hvy)) hav h1ry _ _ _) (by kernel_rfl) (cdMe2 β).cd (K2.sub (by kernel_rfl)) (St.emp.2 (St_re S2 [0,8,2,7,4,10] [1,3,5,6,9,11] (by kernel_rfl))) fun A3 w3 N3 H3=> ?_
 have S3:St w0 fp0 ([blkA lb (tN β) #[.slice ak mk dk,slots A3 62,lp],slA (tV β) (slots A3 62) (ly++[vy]++ry),blkA b (tN β) #[sV gk nk ck,sV gv nv cv,sV gp np cp],slA (tV β) (sV gv nv cv) ys,blkA rb (tN β) #[rk,rv,rp],slA (tV β) (rv) ry,slA (tK β) (.slice ak mk dk) (lx++[ky]++rx),slA (tK β) (sV gk nk ck) xs,slA (tK β) (rk) rx,slA (tP β) (sV gp np cp) zs,slA (tP β) (lp) lz,slA (tP β) (rp) rz]++R) w3:=(St.drop H3)
 have K3:Knows 111 A3 [(1,pV b 0),(2,nV i),(6,pV lb 0),(7,pV rb 0)]:=N3.knows K2 (by kernel_rfl)
 obtain ⟨av,mv,dv,e62⟩:∃a n c,slots A3 62=.slice a n c:=⟨_,_,_,N3.val 18 rfl⟩
 rw [e62] at S3
 refine wp_seqT (cdMe3 β).sq ?_
 refine wp_regT (obMe3 β lb rb mk dk mv dv ak av lp rk rv rp lz rz hap h1rz _ _ _) (by kernel_rfl) (cdMe3 β).cd (K3.sub (by kernel_rfl)) (St_re S3 [0,10,4,11] [1,2,3,5,6,7,8,9] (by kernel_rfl)) fun A4 w4 N4 H4=> ?_
 have S4:St w0 fp0 ([blkA lb (tN β) #[.slice ak mk dk, .slice av mv dv,slots A4 74],slA (tP β) (slots A4 74) (lz++rz),blkA rb (tN β) #[rk,rv,rp],slA (tP β) (rp) rz,slA (tV β) (.slice av mv dv) (ly++[vy]++ry),blkA b (tN β) #[sV gk nk ck,sV gv nv cv,sV gp np cp],slA (tV β) (sV gv nv cv) ys,slA (tV β) (rv) ry,slA (tK β) (.slice ak mk dk) (lx++[ky]++rx),slA (tK β) (sV gk nk ck) xs,slA (tK β) (rk) rx,slA (tP β) (sV gp np cp) zs]++R) w4:=H4
 have K4:Knows 111 A4 [(1,pV b 0),(2,nV i),(6,pV lb 0),(7,pV rb 0)]:=N4.knows K3 (by kernel_rfl)
 obtain ⟨ap,mp,dp,e74⟩:∃a n c,slots A4 74=.slice a n c:=⟨_,_,_,N4.val 9 rfl⟩
 rw [e74] at S4
 refine wp_seqT (cdMe4 β).sq ?_
 refine wp_regT (obMe4 β b i gk nk ck gv nv cv gp np cp xs ys (List.getElem?_eq_some_iff.1 hky).1 (List.getElem?_eq_some_iff.1 hvy).1 hlx hly h1x h1y _ _ _) (by kernel_rfl) (cdMe4 β).cd (K4.sub (by kernel_rfl)) (St_re S4 [5,9,6] [0,1,2,3,4,7,8,10,11] (by kernel_rfl)) fun A5 w5 N5 H5=> ?_
 have S5:St w0 fp0 ([blkA b (tN β) #[slots A5 86,slots A5 94,sV gp np cp],slA (tK β) (slots A5 86) (xs.eraseIdx i),slA (tV β) (slots A5 94) (ys.eraseIdx i),blkA lb (tN β) #[.slice ak mk dk, .slice av mv dv, .slice ap mp dp],slA (tP β) (.slice ap mp dp) (lz++rz),blkA rb (tN β) #[rk,rv,rp],slA (tP β) (rp) rz,slA (tV β) (.slice av mv dv) (ly++[vy]++ry),slA (tV β) (rv) ry,slA (tK β) (.slice ak mk dk) (lx++[ky]++rx),slA (tK β) (rk) rx,slA (tP β) (sV gp np cp) zs]++R) w5:=H5
 have K5:Knows 111 A5 [(1,pV b 0),(2,nV i),(6,pV lb 0),(7,pV rb 0)]:=N5.knows K4 (by kernel_rfl)
 obtain ⟨ek,fk,hk,e86⟩:∃a n c,slots A5 86=.slice a n c:=⟨_,_,_,N5.val 9 rfl⟩
 rw [e86] at S5
 obtain ⟨ev,fv,hv,e94⟩:∃a n c,slots A5 94=.slice a n c:=⟨_,_,_,N5.val 17 rfl⟩
 rw [e94] at S5
 refine wp_regT (obMe5 β b i fk hk fv hv gp np cp ek ev zs (List.getElem?_eq_some_iff.1 hrb).1 hlz h1z _ _ _) (by kernel_rfl) (cdMe5 β).cd (K5.sub (by kernel_rfl)) (St_re S5 [0,11] [1,2,3,4,5,6,7,8,9,10] (by kernel_rfl)) fun A6 w6 N6 H6=> ?_
 have S6:St w0 fp0 ([blkA b (tN β) #[.slice ek fk hk, .slice ev fv hv,slots A6 108],slA (tP β) (slots A6 108) (zs.eraseIdx (i+1)),slA (tK β) (.slice ek fk hk) (xs.eraseIdx i),slA (tV β) (.slice ev fv hv) (ys.eraseIdx i),blkA lb (tN β) #[.slice ak mk dk, .slice av mv dv, .slice ap mp dp],slA (tP β) (.slice ap mp dp) (lz++rz),blkA rb (tN β) #[rk,rv,rp],slA (tP β) (rp) rz,slA (tV β) (.slice av mv dv) (ly++[vy]++ry),slA (tV β) (rv) ry,slA (tK β) (.slice ak mk dk) (lx++[ky]++rx),slA (tK β) (rk) rx]++R) w6:=H6
 have K6:Knows 111 A6 [(1,pV b 0),(2,nV i),(6,pV lb 0),(7,pV rb 0)]:=N6.knows K5 (by kernel_rfl)
 refine post_T K6 (res0 (resMe β)) ?_
 exact ⟨rfl,_,_,_,_,_,_,(St.drop (St.drop (St.drop (St.drop (St_re S6 [6,7,9,11,0,2,3,1,4,10,8,5] [] (by kernel_rfl))))))⟩
end Go.Proofs.YtpdlkdoogojboaaGreat
/- merge at trees. -/
namespace Go.Proofs.YtpdlkdoogojboaaGreat
open Go Go.RowKit
variable {β:Bool}
theorem mid2 {α:Type} {l:List α} {i:Nat} {c d:α} (h:l[i]? =some c) (h2:l[i+1]? =some d):(l.take (i+2)).drop i=[c,d]:=by
 obtain ⟨a1,a2⟩:=List.getElem?_eq_some_iff.1 h
 obtain ⟨b1,b2⟩:=List.getElem?_eq_some_iff.1 h2
 rw [List.take_succ_eq_append_getElem b1,List.take_succ_eq_append_getElem a1,List.append_assoc,List.drop_append_of_le_length (by simp;omega),List.drop_of_length_le (by simp;omega),a2,b2]
 rfl
theorem star_has {w:World}:∀{L:List Asn} {fp:List Nat} {i:Nat} {A:Asn},Star w L fp→L[i]? =some A→∃f,A.p w f
 | [],_,i,_,_,hi=> by simp at hi
 | B::L,fp,0,A,h,hi=> by
  obtain ⟨f,g,h1,h2,h3,rfl⟩:=h
  rw [List.getElem?_cons_zero] at hi
  cases hi
  exact ⟨f,h1⟩
 | B::L,fp,i+1,A,h,hi=> by
  obtain ⟨f,g,h1,h2,h3,rfl⟩:=h
  rw [List.getElem?_cons_succ] at hi
  exact star_has h2 hi
/-- What can be seen of a kid. -/
theorem kid_lookT {h:Nat} {cs:List TT} {bs:List Nat} {j cb:Nat} {c:TT} (h1:cs[j]? =some c) (h2:bs[j]? =some cb) {w:World} {f:List Nat} (hk:(starA (List.zipWith (treeA β h) cs bs)).p w f):∃ka kc,w.cell? ⟨cb,0,none⟩=some (.slice ka c.es.length kc):=by
 obtain ⟨g,hg⟩:=star_has (i:=j) (A:=treeA β h c cb) hk (by rw [List.getElem?_zipWith,h1,h2])
 obtain ⟨ka,kc,_,_,e,_⟩:=tree_lookT hg
 exact ⟨ka,kc,e⟩
theorem St.kids_app {w0 w:World} {fp0:List Nat} {L:List Asn} {h:Nat} {A B:List TT} {A' B':List Nat} (hl:A'.length=A.length):
 St w0 fp0 (starA (List.zipWith (kidA β h) (A++B) (A'++B'))::L) w↔St w0 fp0 (starA (List.zipWith (kidA β h) A A')::starA (List.zipWith (kidA β h) B B')::L) w:=by
 rw [zipWith_app _ _ _ _ _ hl.symm]
 constructor
 · intro h0
   have h1:=St.star.1 h0
   rw [List.append_assoc] at h1
   have h2:St w0 fp0 (starA (List.zipWith (kidA β h) B B')::(List.zipWith (kidA β h) A A'++L)) w:=St.star.2 (h1.perm (by
    classical
    refine List.perm_iff_count.2 fun a=> ?_
    simp only [List.count_append]
    omega))
   exact St.star.2 (h2.perm (by
    classical
    refine List.perm_iff_count.2 fun a=> ?_
    simp only [List.count_append,List.count_cons]
    omega))
 · intro h0
   have h1:=St.star.1 h0
   have h2:St w0 fp0 (starA (List.zipWith (kidA β h) B B')::(List.zipWith (kidA β h) A A'++L)) w:=h1.perm (by
    classical
    refine List.perm_iff_count.2 fun a=> ?_
    simp only [List.count_append,List.count_cons]
    omega)
   refine St.star.2 ((St.star.1 h2).perm ?_)
   classical
   refine List.perm_iff_count.2 fun a=> ?_
   simp only [List.count_append]
   omega
theorem St.kids2 {w0 w:World} {fp0:List Nat} {L:List Asn} {h i:Nat} {cs:List TT} {bs:List Nat} {l r:TT} {lb rb:Nat} (hl:bs.length=cs.length) (h1:cs[i]? =some l) (h2:cs[i+1]? =some r) (e1:bs[i]? =some lb) (e2:bs[i+1]? =some rb)
 (hs:St w0 fp0 (starA (List.zipWith (treeA β h) cs bs)::L) w):St w0 fp0 (treeA β h l lb::treeA β h r rb::restA β h i (i+2) cs bs::L) w:=by
 have h3:=St.star.1 hs
 rw [zip3T h i (i+2) (by omega) _ _ hl,mid2 h1 h2,mid2 e1 e2] at h3
 have h4:St w0 fp0 ((List.zipWith (treeA β h) (cs.take i) (bs.take i)++List.zipWith (treeA β h) (cs.drop (i+2)) (bs.drop (i+2)))++(treeA β h l lb::treeA β h r rb::L)) w:=by
  refine h3.perm ?_
  classical
  refine List.perm_iff_count.2 fun a=> ?_
  simp only [List.zipWith,List.cons_append,List.nil_append,List.count_append,List.count_cons]
  omega
 refine (St.star.2 h4).perm ?_
 unfold restA
 classical
 refine List.perm_iff_count.2 fun a=> ?_
 simp only [List.count_cons]
 omega
theorem map_eraseIdx' {α γ:Type} (f:α→γ):∀(l:List α) (i:Nat),(l.eraseIdx i).map f=(l.map f).eraseIdx i
 | [],_=> rfl
 | _::_,0=> rfl
 | a::l,i+1=> by simp [List.eraseIdx,map_eraseIdx' f l i]
/-- Two neighbouring kids in view. -/
theorem St.open2 {w0 w:World} {fp0:List Nat} {R:List Asn} {h i:Nat} {es:MM} {cs:List TT} {bs:List Nat} {l r:TT} {b lb rb:Nat} {ks vs ps:Value} (hl:bs.length=cs.length) (h1:cs[i]? =some l) (h2:cs[i+1]? =some r) (e1:bs[i]? =some lb) (e2:bs[i+1]? =some rb)
 (hS:St w0 fp0 ([blkA b (tN β) #[ks,vs,ps],slA (tK β) ks (keysV es),slA (tV β) vs (valsV es),slA (tP β) ps (bs.map ptrV),starA (List.zipWith (treeA β h) cs bs)]++R) w):
 ∃lk lv lp lbs rk rv rp rbs,lbs.length=l.cs.length∧rbs.length=r.cs.length∧St w0 fp0 ([blkA b (tN β) #[ks,vs,ps],slA (tK β) ks (keysV es),slA (tV β) vs (valsV es),slA (tP β) ps (bs.map ptrV),blkA lb (tN β) #[lk,lv,lp],slA (tK β) lk (keysV l.es),slA (tV β) lv (valsV l.es),slA (tP β) lp (lbs.map ptrV),blkA rb (tN β) #[rk,rv,rp],slA (tK β) rk (keysV r.es),slA (tV β) rv (valsV r.es),slA (tP β) rp (rbs.map ptrV)]++
  (starA (List.zipWith (kidA β h) l.cs lbs)::starA (List.zipWith (kidA β h) r.cs rbs)::restA β h i (i+2) cs bs::R)) w:=by
 have g1:=St.kids2 hl h1 h2 e1 e2 (St_re hS [4,0,1,2,3] [] (by kernel_rfl))
 obtain ⟨lk,lv,lp,lbs,hl1,g2⟩:=St.openNT g1
 obtain ⟨rk,rv,rp,rbs,hl2,g3⟩:=St.openNT (St_re (L:=[_,_,_,_,_,_,_,_,_,_,_]) g2 [5,0,1,2,3,4,6,7,8,9,10] [] (by kernel_rfl))
 exact ⟨lk,lv,lp,lbs,rk,rv,rp,rbs,hl1,hl2,St_re (L:=[_,_,_,_,_,_,_,_,_,_,_,_,_,_,_]) g3 [11,12,13,14,5,6,7,8,0,1,2,3] [9,4,10] (by kernel_rfl)⟩
theorem bs_two {bs:List Nat} {i lb rb:Nat} (e1:bs[i]? =some lb) (e2:bs[i+1]? =some rb):bs.take i++([lb,rb]++bs.drop (i+2))=bs:=by
 conv=> rhs;rw [split_at e1]
 have e3:bs.drop (i+1)=rb::bs.drop (i+2):=by
  obtain ⟨hlt,hx⟩:=List.getElem?_eq_some_iff.1 e2
  rw [List.drop_eq_getElem_cons hlt,hx]
 rw [e3]
 rfl
theorem bs_one {bs:List Nat} {i lb:Nat} (e1:bs[i]? =some lb):bs.take i++([lb]++bs.drop (i+2))=bs.eraseIdx (i+1):=by
 rw [List.eraseIdx_eq_take_drop_succ]
 obtain ⟨hlt,hx⟩:=List.getElem?_eq_some_iff.1 e1
 rw [List.take_succ_eq_append_getElem hlt,hx,List.append_assoc]
/-- Both kids back. -/
theorem St.shut2 {w0 w:World} {fp0:List Nat} {R:List Asn} {h i:Nat} {es le re:MM} {cs lc rc:List TT} {bs lbs rbs:List Nat} {b lb rb:Nat} {ks vs ps lk lv lp rk rv rp:Value} (hl:bs.length=cs.length) (e1:bs[i]? =some lb) (e2:bs[i+1]? =some rb) (hl1:lbs.length=lc.length) (hl2:rbs.length=rc.length)
 (hS:St w0 fp0 ([blkA b (tN β) #[ks,vs,ps],slA (tK β) ks (keysV es),slA (tV β) vs (valsV es),slA (tP β) ps (bs.map ptrV),blkA lb (tN β) #[lk,lv,lp],slA (tK β) lk (keysV le),slA (tV β) lv (valsV le),slA (tP β) lp (lbs.map ptrV),blkA rb (tN β) #[rk,rv,rp],slA (tK β) rk (keysV re),slA (tV β) rv (valsV re),slA (tP β) rp (rbs.map ptrV),
  starA (List.zipWith (kidA β h) lc lbs),starA (List.zipWith (kidA β h) rc rbs),restA β h i (i+2) cs bs]++R) w):
 St w0 fp0 (treeA β (h+1) (.node es (cs.take i++.node le lc::.node re rc::cs.drop (i+2))) b::R) w:=by
 have g1:=St.shutNT (es:=le) (cs:=lc) hl1 (St_re hS [4,5,6,7,12,0,1,2,3,8,9,10,11,13,14] [] (by kernel_rfl))
 have g2:=St.shutNT (es:=re) (cs:=rc) hl2 (St_re (L:=[_,_,_,_,_,_,_,_,_,_,_]) g1 [5,6,7,8,9,0,1,2,3,4,10] [] (by kernel_rfl))
 have g3:=St_re (L:=[_,_,_,_,_,_,_]) g2 [2,3,4,5,6,1,0] [] (by kernel_rfl)
 refine St.joinT (mid:=[.node le lc, .node re rc]) (mb:=[lb,rb]) (ks:=ks) (vs:=vs) (ps:=ps) i (i+2) hl rfl ?_
 rw [bs_two e1 e2]
 exact g3
/-- **merge**. -/
theorem merge_calls (tb:Nat) {h i:Nat} {x l r:TT} {s:Ky×Va} {b:Nat} {ks vs ps:Value} {bs:List Nat} {w0 w:World} {fp0:List Nat} {R:List Asn} (hl:bs.length=x.cs.length) (h1:x.cs[i]? =some l) (h2:x.cs[i+1]? =some r) (h3:x.es[i]? =some s)
 (hxl:x.es.length≤2000∧x.cs.length≤2001) (hll:l.es.length≤2000) (hrl:r.es.length≤2000) (hlc:l.cs.length≤2001) (hrc:r.cs.length≤2001)
 (hS:St w0 fp0 ([blkA b (tN β) #[ks,vs,ps],slA (tK β) ks (keysV x.es),slA (tV β) vs (valsV x.es),slA (tP β) ps (bs.map ptrV),starA (List.zipWith (treeA β h) x.cs bs)]++R) w):
 Calls Tryz.prog (fMerge β) #[ptrV tb,ptrV b, .int .i64 i] w fun e w'=> e=.returned (.tuple #[])∧St w0 fp0 (treeA β (h+1) (mergeT i x) b::R) w':=by
 have a1:=(List.getElem?_eq_some_iff.1 h1).1
 have a2:=(List.getElem?_eq_some_iff.1 h2).1
 have a3:=(List.getElem?_eq_some_iff.1 h3).1
 obtain ⟨lb,e1⟩:∃lb,bs[i]? =some lb:=⟨_,List.getElem?_eq_getElem (by omega)⟩
 obtain ⟨rb,e2⟩:∃rb,bs[i+1]? =some rb:=⟨_,List.getElem?_eq_getElem (by omega)⟩
 obtain ⟨lk,lv,lp,lbs,rk,rv,rp,rbs,hl1,hl2,g⟩:=St.open2 hl h1 h2 e1 e2 hS
 obtain ⟨_,q1⟩:=g.has 1 rfl
 obtain ⟨_,q2⟩:=g.has 2 rfl
 obtain ⟨_,q3⟩:=g.has 3 rfl
 obtain ⟨gk,ck,rfl, -⟩:=sl_some q1 (by rw [keysV_length];omega)
 obtain ⟨gv,cv,rfl, -⟩:=sl_some q2 (by rw [valsV_length];omega)
 obtain ⟨gp,cp,rfl, -⟩:=sl_some q3 (by rw [List.length_map];omega)
 refine (merge_flat β tb b lb rb i gk _ ck gv _ cv gp _ cp lk lv lp rk rv rp (encK s.1) (encV s.2) _ _ _ _ _ _ _ _ _ rfl rfl rfl (by simp [keysV,h3]) (by simp [valsV,h3]) (by rw [List.getElem?_map,e1];rfl) (by rw [List.getElem?_map,e2];rfl)
  (by rw [keysV_length];omega) (by rw [valsV_length];omega) (by rw [List.length_map];omega) (by rw [keysV_length,keysV_length];omega) (by rw [valsV_length,valsV_length];omega) (by rw [List.length_map,List.length_map];omega)
  (keysV_one _) (valsV_one _) (ptrV_one _) (keysV_one _) (valsV_one _) (ptrV_one _) w0 w fp0 _ g).mono ?_
 rintro e w' ⟨rfl,ks',vs',ps',lk',lv',lp',g1⟩
 refine ⟨rfl,?_⟩
 have g2:=(St.kids_app hl1).2 (St_re (L:=[_,_,_,_,_,_,_,_,_,_,_]) g1 [8,9,0,1,2,3,4,5,6,7,10] [] (by kernel_rfl))
 have k4:keysV l.es++[encK s.1]++keysV r.es=keysV (l.es++s::r.es):=by simp [keysV]
 have k5:valsV l.es++[encV s.2]++valsV r.es=valsV (l.es++s::r.es):=by simp [valsV]
 have k6:lbs.map ptrV++rbs.map ptrV=(lbs++rbs).map ptrV:=List.map_append.symm
 have k1:(keysV x.es).eraseIdx i=keysV (x.es.eraseIdx i):=(map_eraseIdx' _ _ _).symm
 have k2:(valsV x.es).eraseIdx i=valsV (x.es.eraseIdx i):=(map_eraseIdx' _ _ _).symm
 have k3:(bs.map ptrV).eraseIdx (i+1)=(bs.eraseIdx (i+1)).map ptrV:=(map_eraseIdx' _ _ _).symm
 have g3:=St_re (L:=[_,_,_,_,_,_,_,_,_,_]) g2 [5,6,7,8,0,1,2,3,4,9] [] (by kernel_rfl)
 rw [k1,k2,k3,k4,k5,k6] at g3
 have g4:=St.shutNT (es:=l.es++s::r.es) (cs:=l.cs++r.cs) (bs:=lbs++rbs) (by rw [List.length_append,List.length_append,hl1,hl2]) g3
 have e:mergeT i x=.node (x.es.eraseIdx i) (x.cs.take i++([.node (l.es++s::r.es) (l.cs++r.cs)]++x.cs.drop (i+2))):=by unfold mergeT;rw [h1,h2,h3];rfl
 rw [e]
 refine St.joinT (mb:=[lb]) (ks:=ks') (vs:=vs') (ps:=ps') i (i+2) hl rfl ?_
 rw [bs_one e1]
 exact St_re (L:=[_,_,_,_,_,_]) g4 [1,2,3,4,5,0] [] (by kernel_rfl)
end Go.Proofs.YtpdlkdoogojboaaGreat
/- fill: its ways, over both trees. -/
namespace Go.Proofs.YtpdlkdoogojboaaGreat
open Go Go.RowKit
set_option maxRecDepth 100000
noncomputable def gFl3 (β:Bool) (b lb j gk nk ck gv nv cv gp np cp:Nat) (zs:List Value):=rg Tryz.prog (BFill β) 3 310 [(41,8),(7,1)] [(1,pV b 0),(2,nV (j+1))] (Vq 0 41 [Kp b 0,Kp b 0,Kp b 2,Ks gp np cp,Kn (j+1),Kn j,Kp gp j,Kp lb 0]++Vq 8 7 [Kp lb 0]) [Bk b (tN β) [sV gk nk ck,sV gv nv cv,sV gp np cp], .sl (tP β) (sV gp np cp) zs []]
theorem obFl3 (β:Bool) (b lb j gk nk ck gv nv cv gp np cp:Nat) (zs:List Value) (hj:j < np) (hlb:zs[j]? =some (ptrV lb)) (hs:np < 1099511627776) (w0:World) (fp0:List Nat) (R:List Asn):(gFl3 β b lb j gk nk ck gv nv cv gp np cp zs w0 fp0 R).Ok 9:=by
 cases β <;> exact Rg.ok _ 9 [3,5,6,7] ⟨.load _ 3 0 2, .sub _ 5 (j+1) (1) ((j:Nat):Int), .index _ 6 gp np cp j hj, .elem _ 7 1 j hlb,trivial⟩
theorem cdFl3 (β:Bool):IsSq (BFill β) [1,4,1,2] 3:=by cases β <;> exact isq (by kernel_rfl)
noncomputable def gFl4 (β:Bool) (lb hk dk hv dv last n2 c2:Nat) (a2:Option Addr):=rg Tryz.prog (BFill β) 4 310 [(49,6),(8,1)] [(7,pV lb 0)] (Vq 0 49 [Kp lb 0,Kp lb 0,Kp lb 0,Ks hk (last+1) dk,Kn (last+1),Kn last]++Vq 6 8 [Kn last]) [Bk lb (tN β) [sV hk (last+1) dk,sV hv (last+1) dv, .slice a2 n2 c2]]
theorem obFl4 (β:Bool) (lb hk dk hv dv last n2 c2:Nat) (a2:Option Addr) (hs:last+1 < 1099511627776) (w0:World) (fp0:List Nat) (R:List Asn):(gFl4 β lb hk dk hv dv last n2 c2 a2 w0 fp0 R).Ok 7:=by
 cases β <;> exact Rg.ok _ 7 [3,5] ⟨.load _ 3 0 0, .sub _ 5 (last+1) (1) ((last:Nat):Int),trivial⟩
theorem cdFl4 (β:Bool):IsSq (BFill β) [1,4,1,2,1] 4:=by cases β <;> exact isq (by kernel_rfl)
noncomputable def gFl5 (β:Bool) (b cb j gk nk ck gv nv cv gp np cp:Nat) (qk qv qp ky vy:Value) (xs ys cx cy:List Value):=rg Tryz.prog (BFill β) 5 310 [(55,34)] [(6,pV cb 0),(1,pV b 0),(2,nV (j+1))] (Vq 0 55 [Kp cb 0,Kp cb 0,Kp cb 0,Kp cb 0,Kp cb 0,Kv qk,Kp b 0,Kp b 0,Kp b 0,Ks gk nk ck,Kn (j+1),Kn j,Kp gk j,Kv ky,Vf.box,Vf.slice,Kp cb 0,Kp cb 0,Kp cb 1,Kv qv,Kp b 0,Kp b 0,Kp b 1,Ks gv nv cv,Kn (j+1),Kn j,Kp gv j,Kv vy,Vf.box,Vf.slice,Kp cb 0,Kp cb 0]++Vq 33 87 [Kp cb 0,Kp cb 1]) [.new 14 [69] fun g=> boxA (tK β) (g 69) ky, .new 28 [83] fun g=> boxA (tV β) (g 83) vy,Bk b (tN β) [sV gk nk ck,sV gv nv cv,sV gp np cp], .sl (tK β) (sV gk nk ck) xs [], .sl (tV β) (sV gv nv cv) ys [], .blk cb (tN β) [⟨qk,[(32, .s 70)]⟩,⟨qv,[(35, .s 84)]⟩,⟨qp,[]⟩], .sl (tK β) (qk) cx [(15,some (.s 70),(ky::cx))], .sl (tV β) (qv) cy [(29,some (.s 84),(vy::cy))]]
theorem obFl5 (β:Bool) (b cb j gk nk ck gv nv cv gp np cp:Nat) (qk qv qp ky vy:Value) (xs ys cx cy:List Value) (hjk:j < nk) (hjv:j < nv) (hs:nk < 1099511627776) (hky:xs[j]? =some ky) (hvy:ys[j]? =some vy) (h1k:ky.oneCell'=true) (h1v:vy.oneCell'=true) (hcx:cx.length < 1099511627776) (hcy:cy.length < 1099511627776) (h1x:∀u∈cx,u.oneCell'=true) (h1y:∀u∈cy,u.oneCell'=true) (w0:World) (fp0:List Nat) (R:List Asn):(gFl5 β b cb j gk nk ck gv nv cv gp np cp qk qv qp ky vy xs ys cx cy w0 fp0 R).Ok 36:=by
 cases β <;> exact Rg.ok _ 36 [5,9,11,12,13,14,15,19,23,25,26,27,28,29,32,35] ⟨.load _ 5 5 0, .load _ 9 2 0, .sub _ 11 (j+1) (1) ((j:Nat):Int), .index _ 12 gk nk ck j hjk, .elem _ 13 3 j hky, .box _ 14 0 h1k, .ins _ 15 0 6 0 _ cx (insK_spec _) (Nat.zero_le _) hcx h1x h1k, .load _ 19 5 1, .load _ 23 2 1, .sub _ 25 (j+1) (1) ((j:Nat):Int), .index _ 26 gv nv cv j hjv, .elem _ 27 4 j hvy, .box _ 28 1 h1v, .ins _ 29 1 7 0 _ cy (insV_spec _) (Nat.zero_le _) hcy h1y h1v, .store _ 32 5 0, .store _ 35 5 1,trivial⟩
theorem cdFl5 (β:Bool):IsSq (BFill β) [1,4,1,2,1,1] 5:=by cases β <;> exact isq (by kernel_rfl)
noncomputable def gFl6 (β:Bool) (b lb j gk nk ck gv nv cv gp np cp hk dk hv dv last n2 c2:Nat) (mk mv:Value) (a2:Option Addr) (xs ys lx ly:List Value):=rg Tryz.prog (BFill β) 6 310 [(89,28)] [(1,pV b 0),(2,nV (j+1)),(7,pV lb 0),(8,nV last)] (Vq 0 89 [Kp b 0,Kp b 0,Kp b 0,Ks gk nk ck,Kn (j+1),Kn j,Kp b 0,Kp b 0,Kp b 1,Ks gv nv cv,Kn (j+1),Kn j,Kp lb 0,Kp lb 0,Kp lb 0,Ks hk (last+1) dk,Kn last,Kp hk last,Kv mk,Kp lb 0,Kp lb 0,Kp lb 1,Ks hv (last+1) dv,Kn last,Kp hv last,Kv mv,Kp gk j]++Vq 28 116 [Kp gv j]) [Bk b (tN β) [sV gk nk ck,sV gv nv cv,sV gp np cp], .sl (tK β) (sV gk nk ck) xs [(27,none,(xs.set j mk))], .sl (tV β) (sV gv nv cv) ys [(29,none,(ys.set j mv))],Bk lb (tN β) [sV hk (last+1) dk,sV hv (last+1) dv, .slice a2 n2 c2], .sl (tK β) (sV hk (last+1) dk) lx [], .sl (tV β) (sV hv (last+1) dv) ly []]
theorem obFl6 (β:Bool) (b lb j gk nk ck gv nv cv gp np cp hk dk hv dv last n2 c2:Nat) (mk mv:Value) (a2:Option Addr) (xs ys lx ly:List Value) (hjk:j < nk) (hjv:j < nv) (hnk:nk=xs.length) (hnv:nv=ys.length) (hs:nk < 1099511627776) (hmk:lx[last]? =some mk) (hmv:ly[last]? =some mv) (h1k:mk.oneCell'=true) (h1v:mv.oneCell'=true) (w0:World) (fp0:List Nat) (R:List Asn):(gFl6 β b lb j gk nk ck gv nv cv gp np cp hk dk hv dv last n2 c2 mk mv a2 xs ys lx ly w0 fp0 R).Ok 30:=by
 cases β <;> exact Rg.ok _ 30 [3,5,9,11,15,17,18,22,24,25,26,27,28,29] ⟨.load _ 3 0 0, .sub _ 5 (j+1) (1) ((j:Nat):Int), .load _ 9 0 1, .sub _ 11 (j+1) (1) ((j:Nat):Int), .load _ 15 3 0, .index _ 17 hk (last+1) dk last (by omega), .elem _ 18 4 last hmk, .load _ 22 3 1, .index _ 24 hv (last+1) dv last (by omega), .elem _ 25 5 last hmv, .index _ 26 gk nk ck j hjk, .storeEl _ 27 1 j xs (by omega) mk h1k, .index _ 28 gv nv cv j hjv, .storeEl _ 29 2 j ys (by omega) mv h1v,trivial⟩
theorem cdFl6 (β:Bool):IsSq (BFill β) [1,4,1,2,1,1,1] 6:=by cases β <;> exact isq (by kernel_rfl)
noncomputable def gFl7 (β:Bool) (lb hk dk hv dv last n2 c2:Nat) (a2:Option Addr) (lx ly:List Value):=rg Tryz.prog (BFill β) 7 310 [(117,22)] [(7,pV lb 0),(8,nV last)] (Vq 0 117 [Kp lb 0,Kp lb 0,Kp lb 0,Kp lb 0,Kp lb 0,Ks hk (last+1) dk,Kn last,Kn last,Kn (last+1),Vf.slice,Kp lb 0,Kp lb 0,Kp lb 1,Ks hv (last+1) dv,Kn last,Kn last,Kn (last+1),Vf.slice,Kp lb 0,Kp lb 0]++Vq 21 137 [Kp lb 0,Kp lb 1]) [.blk lb (tN β) [⟨sV hk (last+1) dk,[(20, .s 126)]⟩,⟨sV hv (last+1) dv,[(23, .s 134)]⟩,⟨.slice a2 n2 c2,[]⟩], .sl (tK β) (sV hk (last+1) dk) lx [(9,some (.s 126),(lx.eraseIdx last))], .sl (tV β) (sV hv (last+1) dv) ly [(17,some (.s 134),(ly.eraseIdx last))]]
theorem obFl7 (β:Bool) (lb hk dk hv dv last n2 c2:Nat) (a2:Option Addr) (lx ly:List Value) (hlx:lx.length=last+1) (hly:ly.length=last+1) (hs:last+1 < 1099511627776) (h1x:∀u∈lx,u.oneCell'=true) (h1y:∀u∈ly,u.oneCell'=true) (w0:World) (fp0:List Nat) (R:List Asn):(gFl7 β lb hk dk hv dv last n2 c2 a2 lx ly w0 fp0 R).Ok 24:=by
 cases β <;> exact Rg.ok _ 24 [5,8,9,13,16,17,20,23] ⟨.load _ 5 0 0, .add _ 8 (last) (1) ((last+1:Nat):Int), .del _ 9 1 last _ lx (delK_spec _) (by omega) (by omega) h1x, .load _ 13 0 1, .add _ 16 (last) (1) ((last+1:Nat):Int), .del _ 17 2 last _ ly (delV_spec _) (by omega) (by omega) h1y, .store _ 20 0 0, .store _ 23 0 1,trivial⟩
theorem cdFl7 (β:Bool):IsSq (BFill β) [1,4,1,2,1,1,1,1] 7:=by cases β <;> exact isq (by kernel_rfl)
noncomputable def gFl8 (β:Bool) (lb n2 c2 un uc vn vc:Nat) (ua va a2:Option Addr):=rg Tryz.prog (BFill β) 8 310 [(139,3)] [(7,pV lb 0)] (Vq 0 139 [Kp lb 0,Kv (.bool (n2==0)),Kv (.bool (!(n2==0)))]) [Bk lb (tN β) [.slice ua un uc, .slice va vn vc, .slice a2 n2 c2]]
theorem obFl8 (β:Bool) (lb n2 c2 un uc vn vc:Nat) (ua va a2:Option Addr)  (w0:World) (fp0:List Nat) (R:List Asn):(gFl8 β lb n2 c2 un uc vn vc ua va a2 w0 fp0 R).Ok 3:=by
 cases β <;> exact Rg.ok _ 3 [1] ⟨.ask1 _ 1 0 (fun w fp h=> (leaf_calls lb _ _ a2 n2 c2 w h).mono fun e w' ⟨h1,h2⟩=> ⟨h1,h2 ▸ Below.refl _ _⟩),trivial⟩
theorem cdFl8 (β:Bool):IsSq (BFill β) [1,4,1,2,1,1,1,1,1] 8:=by cases β <;> exact isq (by kernel_rfl)
theorem ccFl141 (β:Bool):isCond (csnd (csnd (csnd (csnd (csnd (csnd (cthen (csnd (cbody (csnd (bodyC (BFill β))))))))))))=true∧ccond (csnd (csnd (csnd (csnd (csnd (csnd (cthen (csnd (cbody (csnd (bodyC (BFill β))))))))))))=.tmp 141:=by cases β <;> exact ⟨kr (by kernel_rfl),kr (by kernel_rfl)⟩
noncomputable def gFl9 (β:Bool) (cb lb gz n2 c2 last en ec fn fc un uc vn vc:Nat) (ea fa ua va:Option Addr) (qp pz:Value) (lz cz:List Value):=rg Tryz.prog (BFill β) 9 310 [(142,17)] [(6,pV cb 0),(7,pV lb 0),(8,nV last)] (Vq 0 142 [Kp cb 0,Kp cb 0,Kp cb 0,Kp cb 2,Kv qp,Kp lb 0,Kp lb 0,Kp lb 2,Ks gz n2 c2,Kn last,Kn (last+1),Kp gz (last+1),Kv pz,Vf.box,Vf.slice,Kp cb 0,Kp cb 2]) [.new 13 [155] fun g=> boxA (tP β) (g 155) pz, .blk cb (tN β) [⟨.slice ea en ec,[]⟩,⟨.slice fa fn fc,[]⟩,⟨qp,[(17, .s 156)]⟩], .sl (tP β) (qp) cz [(14,some (.s 156),(pz::cz))],Bk lb (tN β) [.slice ua un uc, .slice va vn vc,sV gz n2 c2], .sl (tP β) (sV gz n2 c2) lz []]
theorem obFl9 (β:Bool) (cb lb gz n2 c2 last en ec fn fc un uc vn vc:Nat) (ea fa ua va:Option Addr) (qp pz:Value) (lz cz:List Value) (hl:last+1 < n2) (hn2:n2=lz.length) (hs:n2 < 1099511627776) (hpz:lz[last+1]? =some pz) (h1p:pz.oneCell'=true) (hcz:cz.length < 1099511627776) (h1z:∀u∈cz,u.oneCell'=true) (w0:World) (fp0:List Nat) (R:List Asn):(gFl9 β cb lb gz n2 c2 last en ec fn fc un uc vn vc ea fa ua va qp pz lz cz w0 fp0 R).Ok 18:=by
 cases β <;> exact Rg.ok _ 18 [4,8,10,11,12,13,14,17] ⟨.load _ 4 1 2, .load _ 8 3 2, .add _ 10 (last) (1) ((last+1:Nat):Int), .index _ 11 gz n2 c2 (last+1) hl, .elem _ 12 4 (last+1) hpz, .box _ 13 0 h1p, .ins _ 14 0 2 0 _ cz (insP_spec _) (Nat.zero_le _) hcz h1z h1p, .store _ 17 1 2,trivial⟩
theorem cdFl9 (β:Bool):IsSq (BFill β) [1,4,1,2,1,1,1,1,1,1,2] 9:=by cases β <;> exact isq (by kernel_rfl)
noncomputable def gFl10 (β:Bool) (lb gz n2 c2 last un uc vn vc:Nat) (ua va:Option Addr) (lz:List Value):=rg Tryz.prog (BFill β) 10 310 [(159,12)] [(7,pV lb 0),(8,nV last)] (Vq 0 159 [Kp lb 0,Kp lb 0,Kp lb 0,Kp lb 2,Ks gz n2 c2,Kn last,Kn (last+1),Kn last,Kn (last+2),Vf.slice,Kp lb 0,Kp lb 2]) [.blk lb (tN β) [⟨.slice ua un uc,[]⟩,⟨.slice va vn vc,[]⟩,⟨sV gz n2 c2,[(12, .s 168)]⟩], .sl (tP β) (sV gz n2 c2) lz [(9,some (.s 168),(lz.eraseIdx (last+1)))]]
theorem obFl10 (β:Bool) (lb gz n2 c2 last un uc vn vc:Nat) (ua va:Option Addr) (lz:List Value) (hl:last+1 < n2) (hn2:n2=lz.length) (hs:n2 < 1099511627776) (h1z:∀u∈lz,u.oneCell'=true) (w0:World) (fp0:List Nat) (R:List Asn):(gFl10 β lb gz n2 c2 last un uc vn vc ua va lz w0 fp0 R).Ok 13:=by
 cases β <;> exact Rg.ok _ 13 [4,6,8,9,12] ⟨.load _ 4 0 2, .add _ 6 (last) (1) ((last+1:Nat):Int), .add _ 8 (last) (2) ((last+2:Nat):Int), .del _ 9 1 (last+1) _ lz (delP_spec _) (by omega) (by omega) h1z, .store _ 12 0 2,trivial⟩
theorem cdFl10 (β:Bool):IsRg (BFill β) [1,4,1,2,1,1,1,1,1,1,2,1] 10:=by cases β <;> exact irg (by kernel_rfl)
theorem isSkipFl0 (β:Bool):isSkip (celse (csnd (csnd (csnd (csnd (csnd (csnd (cthen (csnd (cbody (csnd (bodyC (BFill β)))))))))))))=true:=by cases β <;> exact kr (by kernel_rfl)
set_option maxHeartbeats 4000000 in
theorem fillA (β:Bool) (tb b lb cb j gk nk ck gv nv cv gp np cp hk dk hv dv last n2 c2:Nat) (qk qv qp ky vy mk mv:Value) (a2:Option Addr) (xs ys zs lx ly lz cx cy cz:List Value) (hnk:nk=xs.length) (hnv:nv=ys.length) (hnp:np=zs.length) (hky:xs[j]? =some ky) (hvy:ys[j]? =some vy) (hlb:zs[j]? =some (ptrV lb)) (hmk:lx[last]? =some mk) (hmv:ly[last]? =some mv) (hlx:lx.length=last+1) (hly:ly.length=last+1) (hn2:n2=lz.length) (hlz:lz=[]∨last+1 < lz.length)
 (hsx:xs.length < 1099511627776) (hsl:last+1 < 1099511627776) (hslz:lz.length < 1099511627776) (hscx:cx.length < 1099511627776) (hscy:cy.length < 1099511627776) (hscz:cz.length < 1099511627776) (hszs:zs.length < 1099511627776) (h1xs:∀u∈xs,u.oneCell'=true) (h1ys:∀u∈ys,u.oneCell'=true) (h1lx:∀u∈lx,u.oneCell'=true) (h1ly:∀u∈ly,u.oneCell'=true) (h1lz:∀u∈lz,u.oneCell'=true) (h1cx:∀u∈cx,u.oneCell'=true) (h1cy:∀u∈cy,u.oneCell'=true) (h1cz:∀u∈cz,u.oneCell'=true) (Q:Exit→Act→World→Prop) (A0:Act) (w0 w:World) (fp0:List Nat) (R:List Asn) (K0:Knows 310 A0 [(0,pV tb 0),(1,pV b 0),(2,nV (j+1)),(6,pV cb 0)])
 (hQ:∀A w',(∃nt fs,Knows nt A fs)→∀(ks' vs' ps' lk' lv' lp' ck' cv' cp':Value) (lz' cz':List Value),(lz=[]∧lz'=lz∧cz'=cz)∨(∃pz,lz[last+1]? =some pz∧lz'=lz.eraseIdx (last+1)∧cz'=pz::cz)→St w0 fp0 ([blkA b (tN β) #[ks',vs',ps'],slA (tK β) ks' (xs.set j mk),slA (tV β) vs' (ys.set j mv),slA (tP β) ps' zs,blkA lb (tN β) #[lk',lv',lp'],slA (tK β) lk' (lx.eraseIdx last),slA (tV β) lv' (ly.eraseIdx last),slA (tP β) lp' lz',blkA cb (tN β) #[ck',cv',cp'],slA (tK β) ck' (ky::cx),slA (tV β) cv' (vy::cy),slA (tP β) cp' cz']++R) w'→Q .normal A w')
 (hS:St w0 fp0 ([blkA b (tN β) #[sV gk nk ck,sV gv nv cv,sV gp np cp],slA (tK β) (sV gk nk ck) xs,slA (tV β) (sV gv nv cv) ys,slA (tP β) (sV gp np cp) zs,blkA lb (tN β) #[sV hk (last+1) dk,sV hv (last+1) dv, .slice a2 n2 c2],slA (tK β) (sV hk (last+1) dk) lx,slA (tV β) (sV hv (last+1) dv) ly,slA (tP β) (.slice a2 n2 c2) lz,blkA cb (tN β) #[qk,qv,qp],slA (tK β) (qk) cx,slA (tV β) (qv) cy,slA (tP β) (qp) cz]++R) w):(cthen (csnd (cbody (csnd (bodyC (BFill β)))))).wp Tryz.prog Q A0 w:=by
 refine wp_seqT (cdFl3 β).sq ?_
 refine wp_regT (obFl3 β b lb j gk nk ck gv nv cv gp np cp zs (by rw [hnp];exact (List.getElem?_eq_some_iff.1 hlb).1) hlb (by omega) _ _ _) (by kernel_rfl) (cdFl3 β).cd (K0.sub (by kernel_rfl)) (St_re hS [0,3] [1,2,4,5,6,7,8,9,10,11] (by kernel_rfl)) fun A1 w1 N1 H1=> ?_
 have S1:St w0 fp0 ([blkA b (tN β) #[sV gk nk ck,sV gv nv cv,sV gp np cp],slA (tP β) (sV gp np cp) zs,slA (tK β) (sV gk nk ck) xs,slA (tV β) (sV gv nv cv) ys,blkA lb (tN β) #[sV hk (last+1) dk,sV hv (last+1) dv, .slice a2 n2 c2],slA (tK β) (sV hk (last+1) dk) lx,slA (tV β) (sV hv (last+1) dv) ly,slA (tP β) (.slice a2 n2 c2) lz,blkA cb (tN β) #[qk,qv,qp],slA (tK β) (qk) cx,slA (tV β) (qv) cy,slA (tP β) (qp) cz]++R) w1:=H1
 have K1:Knows 310 A1 [(0,pV tb 0),(1,pV b 0),(2,nV (j+1)),(6,pV cb 0),(7,pV lb 0)]:=N1.knows K0 (by kernel_rfl)
 refine wp_seqT (cdFl4 β).sq ?_
 refine wp_regT (obFl4 β lb hk dk hv dv last n2 c2 a2 hsl _ _ _) (by kernel_rfl) (cdFl4 β).cd (K1.sub (by kernel_rfl)) (St_re S1 [4] [0,1,2,3,5,6,7,8,9,10,11] (by kernel_rfl)) fun A2 w2 N2 H2=> ?_
 have S2:St w0 fp0 ([blkA lb (tN β) #[sV hk (last+1) dk,sV hv (last+1) dv, .slice a2 n2 c2],blkA b (tN β) #[sV gk nk ck,sV gv nv cv,sV gp np cp],slA (tP β) (sV gp np cp) zs,slA (tK β) (sV gk nk ck) xs,slA (tV β) (sV gv nv cv) ys,slA (tK β) (sV hk (last+1) dk) lx,slA (tV β) (sV hv (last+1) dv) ly,slA (tP β) (.slice a2 n2 c2) lz,blkA cb (tN β) #[qk,qv,qp],slA (tK β) (qk) cx,slA (tV β) (qv) cy,slA (tP β) (qp) cz]++R) w2:=H2
 have K2:Knows 310 A2 [(0,pV tb 0),(1,pV b 0),(2,nV (j+1)),(6,pV cb 0),(7,pV lb 0),(8,nV last)]:=N2.knows K1 (by kernel_rfl)
 refine wp_seqT (cdFl5 β).sq ?_
 refine wp_regT (obFl5 β b cb j gk nk ck gv nv cv gp np cp qk qv qp ky vy xs ys cx cy (by rw [hnk];exact (List.getElem?_eq_some_iff.1 hky).1) (by rw [hnv];exact (List.getElem?_eq_some_iff.1 hvy).1) (by omega) hky hvy (h1xs _ (List.mem_of_getElem? hky)) (h1ys _ (List.mem_of_getElem? hvy)) hscx hscy h1cx h1cy _ _ _) (by kernel_rfl) (cdFl5 β).cd (K2.sub (by kernel_rfl)) (St.emp.2 (St.emp.2 (St_re S2 [1,3,4,8,9,10] [0,2,5,6,7,11] (by kernel_rfl)))) fun A3 w3 N3 H3=> ?_
 have S3:St w0 fp0 ([blkA b (tN β) #[sV gk nk ck,sV gv nv cv,sV gp np cp],slA (tK β) (sV gk nk ck) xs,slA (tV β) (sV gv nv cv) ys,blkA cb (tN β) #[slots A3 70,slots A3 84,qp],slA (tK β) (slots A3 70) (ky::cx),slA (tV β) (slots A3 84) (vy::cy),blkA lb (tN β) #[sV hk (last+1) dk,sV hv (last+1) dv, .slice a2 n2 c2],slA (tP β) (sV gp np cp) zs,slA (tK β) (sV hk (last+1) dk) lx,slA (tV β) (sV hv (last+1) dv) ly,slA (tP β) (.slice a2 n2 c2) lz,slA (tP β) (qp) cz]++R) w3:=(St.drop (St.drop H3))
 have K3:Knows 310 A3 [(0,pV tb 0),(1,pV b 0),(2,nV (j+1)),(6,pV cb 0),(7,pV lb 0),(8,nV last)]:=N3.knows K2 (by kernel_rfl)
 obtain ⟨ea,en,ec,e70⟩:∃a n c,slots A3 70=.slice a n c:=⟨_,_,_,N3.val 15 rfl⟩
 rw [e70] at S3
 obtain ⟨fa,fn,fc,e84⟩:∃a n c,slots A3 84=.slice a n c:=⟨_,_,_,N3.val 29 rfl⟩
 rw [e84] at S3
 refine wp_seqT (cdFl6 β).sq ?_
 refine wp_regT (obFl6 β b lb j gk nk ck gv nv cv gp np cp hk dk hv dv last n2 c2 mk mv a2 xs ys lx ly (by rw [hnk];exact (List.getElem?_eq_some_iff.1 hky).1) (by rw [hnv];exact (List.getElem?_eq_some_iff.1 hvy).1) hnk hnv (by omega) hmk hmv (h1lx _ (List.mem_of_getElem? hmk)) (h1ly _ (List.mem_of_getElem? hmv)) _ _ _) (by kernel_rfl) (cdFl6 β).cd (K3.sub (by kernel_rfl)) (St_re S3 [0,1,2,6,8,9] [3,4,5,7,10,11] (by kernel_rfl)) fun A4 w4 N4 H4=> ?_
 have S4:St w0 fp0 ([blkA b (tN β) #[sV gk nk ck,sV gv nv cv,sV gp np cp],slA (tK β) (sV gk nk ck) (xs.set j mk),slA (tV β) (sV gv nv cv) (ys.set j mv),blkA lb (tN β) #[sV hk (last+1) dk,sV hv (last+1) dv, .slice a2 n2 c2],slA (tK β) (sV hk (last+1) dk) lx,slA (tV β) (sV hv (last+1) dv) ly,blkA cb (tN β) #[.slice ea en ec, .slice fa fn fc,qp],slA (tK β) (.slice ea en ec) (ky::cx),slA (tV β) (.slice fa fn fc) (vy::cy),slA (tP β) (sV gp np cp) zs,slA (tP β) (.slice a2 n2 c2) lz,slA (tP β) (qp) cz]++R) w4:=H4
 have K4:Knows 310 A4 [(0,pV tb 0),(1,pV b 0),(2,nV (j+1)),(6,pV cb 0),(7,pV lb 0),(8,nV last)]:=N4.knows K3 (by kernel_rfl)
 refine wp_seqT (cdFl7 β).sq ?_
 refine wp_regT (obFl7 β lb hk dk hv dv last n2 c2 a2 lx ly hlx hly hsl h1lx h1ly _ _ _) (by kernel_rfl) (cdFl7 β).cd (K4.sub (by kernel_rfl)) (St_re S4 [3,4,5] [0,1,2,6,7,8,9,10,11] (by kernel_rfl)) fun A5 w5 N5 H5=> ?_
 have S5:St w0 fp0 ([blkA lb (tN β) #[slots A5 126,slots A5 134, .slice a2 n2 c2],slA (tK β) (slots A5 126) (lx.eraseIdx last),slA (tV β) (slots A5 134) (ly.eraseIdx last),blkA b (tN β) #[sV gk nk ck,sV gv nv cv,sV gp np cp],slA (tK β) (sV gk nk ck) (xs.set j mk),slA (tV β) (sV gv nv cv) (ys.set j mv),blkA cb (tN β) #[.slice ea en ec, .slice fa fn fc,qp],slA (tK β) (.slice ea en ec) (ky::cx),slA (tV β) (.slice fa fn fc) (vy::cy),slA (tP β) (sV gp np cp) zs,slA (tP β) (.slice a2 n2 c2) lz,slA (tP β) (qp) cz]++R) w5:=H5
 have K5:Knows 310 A5 [(0,pV tb 0),(1,pV b 0),(2,nV (j+1)),(6,pV cb 0),(7,pV lb 0),(8,nV last)]:=N5.knows K4 (by kernel_rfl)
 obtain ⟨ua,un,uc,e126⟩:∃a n c,slots A5 126=.slice a n c:=⟨_,_,_,N5.val 9 rfl⟩
 rw [e126] at S5
 obtain ⟨va,vn,vc,e134⟩:∃a n c,slots A5 134=.slice a n c:=⟨_,_,_,N5.val 17 rfl⟩
 rw [e134] at S5
 refine wp_seqT (cdFl8 β).sq ?_
 refine wp_regT (obFl8 β lb n2 c2 un uc vn vc ua va a2  _ _ _) (by kernel_rfl) (cdFl8 β).cd (K5.sub (by kernel_rfl)) (St_re S5 [0] [1,2,3,4,5,6,7,8,9,10,11] (by kernel_rfl)) fun A6 w6 N6 H6=> ?_
 have S6:St w0 fp0 ([blkA lb (tN β) #[.slice ua un uc, .slice va vn vc, .slice a2 n2 c2],slA (tK β) (.slice ua un uc) (lx.eraseIdx last),slA (tV β) (.slice va vn vc) (ly.eraseIdx last),blkA b (tN β) #[sV gk nk ck,sV gv nv cv,sV gp np cp],slA (tK β) (sV gk nk ck) (xs.set j mk),slA (tV β) (sV gv nv cv) (ys.set j mv),blkA cb (tN β) #[.slice ea en ec, .slice fa fn fc,qp],slA (tK β) (.slice ea en ec) (ky::cx),slA (tV β) (.slice fa fn fc) (vy::cy),slA (tP β) (sV gp np cp) zs,slA (tP β) (.slice a2 n2 c2) lz,slA (tP β) (qp) cz]++R) w6:=H6
 have K6:Knows 310 A6 [(0,pV tb 0),(1,pV b 0),(2,nV (j+1)),(6,pV cb 0),(7,pV lb 0),(8,nV last),(141, .bool (!(n2==0)))]:=N6.knows K5 (by kernel_rfl)
 refine wp_condK (ccFl141 β) K6 (by rfl) (fun hq=> ?_) (fun hq=> ?_)
 · skip
   have hz:last+1 < lz.length:=hlz.resolve_left (fun e=> by rw [hn2,e] at hq;simp at hq)
   obtain ⟨_,qz⟩:=St.has S6 10 rfl
   obtain ⟨gz,cz2,ez,hcz2, -⟩:=sl_some qz (by omega)
   obtain ⟨rfl, -,rfl⟩:=Value.slice.inj ez
   obtain ⟨pz,hpz⟩:∃pz,lz[last+1]? =some pz:=⟨_,List.getElem?_eq_getElem hz⟩
   refine wp_seqT (cdFl9 β).sq ?_
   refine wp_regT (obFl9 β cb lb gz n2 c2 last en ec fn fc un uc vn vc ea fa ua va qp pz lz cz (by omega) hn2 (by omega) hpz (h1lz _ (List.mem_of_getElem? hpz)) hscz h1cz _ _ _) (by kernel_rfl) (cdFl9 β).cd (K6.sub (by kernel_rfl)) (St.emp.2 (St_re S6 [6,11,0,10] [1,2,3,4,5,7,8,9] (by kernel_rfl))) fun A7 w7 N7 H7=> ?_
   have S7:St w0 fp0 ([blkA cb (tN β) #[.slice ea en ec, .slice fa fn fc,slots A7 156],slA (tP β) (slots A7 156) (pz::cz),blkA lb (tN β) #[.slice ua un uc, .slice va vn vc,sV gz n2 c2],slA (tP β) (sV gz n2 c2) lz,slA (tK β) (.slice ua un uc) (lx.eraseIdx last),slA (tV β) (.slice va vn vc) (ly.eraseIdx last),blkA b (tN β) #[sV gk nk ck,sV gv nv cv,sV gp np cp],slA (tK β) (sV gk nk ck) (xs.set j mk),slA (tV β) (sV gv nv cv) (ys.set j mv),slA (tK β) (.slice ea en ec) (ky::cx),slA (tV β) (.slice fa fn fc) (vy::cy),slA (tP β) (sV gp np cp) zs]++R) w7:=(St.drop H7)
   have K7:Knows 310 A7 [(0,pV tb 0),(1,pV b 0),(2,nV (j+1)),(6,pV cb 0),(7,pV lb 0),(8,nV last),(141, .bool (!(n2==0)))]:=N7.knows K6 (by kernel_rfl)
   obtain ⟨xa,xn,xc,e156⟩:∃a n c,slots A7 156=.slice a n c:=⟨_,_,_,N7.val 14 rfl⟩
   rw [e156] at S7
   refine wp_regT (obFl10 β lb gz n2 c2 last un uc vn vc ua va lz (by omega) hn2 (by omega) h1lz _ _ _) (by kernel_rfl) (cdFl10 β).cd (K7.sub (by kernel_rfl)) (St_re S7 [2,3] [0,1,4,5,6,7,8,9,10,11] (by kernel_rfl)) fun A8 w8 N8 H8=> ?_
   have S8:St w0 fp0 ([blkA lb (tN β) #[.slice ua un uc, .slice va vn vc,slots A8 168],slA (tP β) (slots A8 168) (lz.eraseIdx (last+1)),blkA cb (tN β) #[.slice ea en ec, .slice fa fn fc, .slice xa xn xc],slA (tP β) (.slice xa xn xc) (pz::cz),slA (tK β) (.slice ua un uc) (lx.eraseIdx last),slA (tV β) (.slice va vn vc) (ly.eraseIdx last),blkA b (tN β) #[sV gk nk ck,sV gv nv cv,sV gp np cp],slA (tK β) (sV gk nk ck) (xs.set j mk),slA (tV β) (sV gv nv cv) (ys.set j mv),slA (tK β) (.slice ea en ec) (ky::cx),slA (tV β) (.slice fa fn fc) (vy::cy),slA (tP β) (sV gp np cp) zs]++R) w8:=H8
   have K8:Knows 310 A8 [(0,pV tb 0),(1,pV b 0),(2,nV (j+1)),(6,pV cb 0),(7,pV lb 0),(8,nV last),(141, .bool (!(n2==0)))]:=N8.knows K7 (by kernel_rfl)
   exact hQ _ _ ⟨_,_,K8⟩ _ _ _ _ _ _ _ _ _ _ _ (.inr ⟨pz,hpz,rfl,rfl⟩) (St_re S8 [6,7,8,11,0,4,5,1,2,9,10,3] [] (by kernel_rfl))
 · skip
   have hz:lz=[]:=hlz.resolve_right (fun e=> by rw [hn2] at hq;simp at hq;rw [hq] at e;simp at e)
   refine wp_skipT (isSkipFl0 β) ?_
   exact hQ _ _ ⟨_,_,K6⟩ _ _ _ _ _ _ _ _ _ _ _ (.inl ⟨hz,rfl,rfl⟩) (St_re S6 [3,4,5,9,0,1,2,10,6,7,8,11] [] (by kernel_rfl))
noncomputable def gFr12 (β:Bool) (b rb i gk nk ck gv nv cv gp np cp:Nat) (zs:List Value):=rg Tryz.prog (BFill β) 12 310 [(196,8),(9,1)] [(1,pV b 0),(2,nV i)] (Vq 0 196 [Kp b 0,Kp b 0,Kp b 2,Ks gp np cp,Kn i,Kn (i+1),Kp gp (i+1),Kp rb 0]++Vq 8 9 [Kp rb 0]) [Bk b (tN β) [sV gk nk ck,sV gv nv cv,sV gp np cp], .sl (tP β) (sV gp np cp) zs []]
theorem obFr12 (β:Bool) (b rb i gk nk ck gv nv cv gp np cp:Nat) (zs:List Value) (hj:i+1 < np) (hrb:zs[i+1]? =some (ptrV rb)) (hs:np < 1099511627776) (w0:World) (fp0:List Nat) (R:List Asn):(gFr12 β b rb i gk nk ck gv nv cv gp np cp zs w0 fp0 R).Ok 9:=by
 cases β <;> exact Rg.ok _ 9 [3,5,6,7] ⟨.load _ 3 0 2, .add _ 5 (i) (1) ((i+1:Nat):Int), .index _ 6 gp np cp (i+1) hj, .elem _ 7 1 (i+1) hrb,trivial⟩
theorem cdFr12 (β:Bool):IsSq (BFill β) [1,4,1,3,1,2] 12:=by cases β <;> exact isq (by kernel_rfl)
noncomputable def gFr13 (β:Bool) (b cb i gk nk ck gv nv cv gp np cp:Nat) (qk qv qp ky vy:Value) (xs ys cx cy:List Value):=rg Tryz.prog (BFill β) 13 310 [(204,32)] [(6,pV cb 0),(1,pV b 0),(2,nV i)] (Vq 0 204 [Kp cb 0,Kp cb 0,Kp cb 0,Kp cb 0,Kp cb 0,Kv qk,Kp b 0,Kp b 0,Kp b 0,Ks gk nk ck,Kn i,Kp gk i,Kv ky,Vf.box,Vf.slice,Kp cb 0,Kp cb 0,Kp cb 1,Kv qv,Kp b 0,Kp b 0,Kp b 1,Ks gv nv cv,Kn i,Kp gv i,Kv vy,Vf.box,Vf.slice,Kp cb 0,Kp cb 0]++Vq 31 234 [Kp cb 0,Kp cb 1]) [.new 13 [217] fun g=> boxA (tK β) (g 217) ky, .new 26 [230] fun g=> boxA (tV β) (g 230) vy,Bk b (tN β) [sV gk nk ck,sV gv nv cv,sV gp np cp], .sl (tK β) (sV gk nk ck) xs [], .sl (tV β) (sV gv nv cv) ys [], .blk cb (tN β) [⟨qk,[(30, .s 218)]⟩,⟨qv,[(33, .s 231)]⟩,⟨qp,[]⟩], .sl (tK β) (qk) cx [(14,some (.s 218),(cx++[ky]))], .sl (tV β) (qv) cy [(27,some (.s 231),(cy++[vy]))]]
theorem obFr13 (β:Bool) (b cb i gk nk ck gv nv cv gp np cp:Nat) (qk qv qp ky vy:Value) (xs ys cx cy:List Value) (hjk:i < nk) (hjv:i < nv) (hky:xs[i]? =some ky) (hvy:ys[i]? =some vy) (h1k:ky.oneCell'=true) (h1v:vy.oneCell'=true) (hcx:cx.length+1 < 1099511627776) (hcy:cy.length+1 < 1099511627776) (w0:World) (fp0:List Nat) (R:List Asn):(gFr13 β b cb i gk nk ck gv nv cv gp np cp qk qv qp ky vy xs ys cx cy w0 fp0 R).Ok 34:=by
 cases β <;> exact Rg.ok _ 34 [5,9,11,12,13,14,18,22,24,25,26,27,30,33] ⟨.load _ 5 5 0, .load _ 9 2 0, .index _ 11 gk nk ck i hjk, .elem _ 12 3 i hky, .box _ 13 0 h1k, .appB _ 14 0 6 cx (appK_spec _) hcx h1k, .load _ 18 5 1, .load _ 22 2 1, .index _ 24 gv nv cv i hjv, .elem _ 25 4 i hvy, .box _ 26 1 h1v, .appB _ 27 1 7 cy (appV_spec _) hcy h1v, .store _ 30 5 0, .store _ 33 5 1,trivial⟩
theorem cdFr13 (β:Bool):IsSq (BFill β) [1,4,1,3,1,2,1] 13:=by cases β <;> exact isq (by kernel_rfl)
noncomputable def gFr14 (β:Bool) (b rb i gk nk ck gv nv cv gp np cp hk mk dk hv mv dv n2 c2:Nat) (nk1 nv1:Value) (a2:Option Addr) (xs ys rx ry:List Value):=rg Tryz.prog (BFill β) 14 310 [(236,24)] [(1,pV b 0),(2,nV i),(9,pV rb 0)] (Vq 0 236 [Kp b 0,Kp b 0,Kp b 0,Ks gk nk ck,Kn i,Kp b 0,Kp b 0,Kp b 1,Ks gv nv cv,Kn i,Kp rb 0,Kp rb 0,Kp rb 0,Ks hk mk dk,Kp hk 0,Kv nk1,Kp rb 0,Kp rb 0,Kp rb 1,Ks hv mv dv,Kp hv 0,Kv nv1,Kp gk i]++Vq 24 259 [Kp gv i]) [Bk b (tN β) [sV gk nk ck,sV gv nv cv,sV gp np cp], .sl (tK β) (sV gk nk ck) xs [(23,none,(xs.set i nk1))], .sl (tV β) (sV gv nv cv) ys [(25,none,(ys.set i nv1))],Bk rb (tN β) [sV hk mk dk,sV hv mv dv, .slice a2 n2 c2], .sl (tK β) (sV hk mk dk) rx [], .sl (tV β) (sV hv mv dv) ry []]
theorem obFr14 (β:Bool) (b rb i gk nk ck gv nv cv gp np cp hk mk dk hv mv dv n2 c2:Nat) (nk1 nv1:Value) (a2:Option Addr) (xs ys rx ry:List Value) (hjk:i < nk) (hjv:i < nv) (hnk:nk=xs.length) (hnv:nv=ys.length) (hmk:0 < mk) (hmv:0 < mv) (hm1:rx[0]? =some nk1) (hm2:ry[0]? =some nv1) (h1k:nk1.oneCell'=true) (h1v:nv1.oneCell'=true) (w0:World) (fp0:List Nat) (R:List Asn):(gFr14 β b rb i gk nk ck gv nv cv gp np cp hk mk dk hv mv dv n2 c2 nk1 nv1 a2 xs ys rx ry w0 fp0 R).Ok 26:=by
 cases β <;> exact Rg.ok _ 26 [3,8,13,14,15,19,20,21,22,23,24,25] ⟨.load _ 3 0 0, .load _ 8 0 1, .load _ 13 3 0, .index _ 14 hk mk dk 0 hmk, .elem _ 15 4 0 hm1, .load _ 19 3 1, .index _ 20 hv mv dv 0 hmv, .elem _ 21 5 0 hm2, .index _ 22 gk nk ck i hjk, .storeEl _ 23 1 i xs (by omega) nk1 h1k, .index _ 24 gv nv cv i hjv, .storeEl _ 25 2 i ys (by omega) nv1 h1v,trivial⟩
theorem cdFr14 (β:Bool):IsSq (BFill β) [1,4,1,3,1,2,1,1] 14:=by cases β <;> exact isq (by kernel_rfl)
noncomputable def gFr15 (β:Bool) (rb hk mk dk hv mv dv n2 c2:Nat) (a2:Option Addr) (rx ry:List Value):=rg Tryz.prog (BFill β) 15 310 [(260,16)] [(9,pV rb 0)] (Vq 0 260 [Kp rb 0,Kp rb 0,Kp rb 0,Kp rb 0,Kp rb 0,Ks hk mk dk,Vf.slice,Kp rb 0,Kp rb 0,Kp rb 1,Ks hv mv dv,Vf.slice,Kp rb 0,Kp rb 0]++Vq 15 274 [Kp rb 0,Kp rb 1]) [.blk rb (tN β) [⟨sV hk mk dk,[(14, .s 266)]⟩,⟨sV hv mv dv,[(17, .s 271)]⟩,⟨.slice a2 n2 c2,[]⟩], .sl (tK β) (sV hk mk dk) rx [(6,some (.s 266),(rx.eraseIdx 0))], .sl (tV β) (sV hv mv dv) ry [(11,some (.s 271),(ry.eraseIdx 0))]]
theorem obFr15 (β:Bool) (rb hk mk dk hv mv dv n2 c2:Nat) (a2:Option Addr) (rx ry:List Value) (hmx:0 < rx.length) (hmy:0 < ry.length) (hsx:rx.length < 1099511627776) (hsy:ry.length < 1099511627776) (h1x:∀u∈rx,u.oneCell'=true) (h1y:∀u∈ry,u.oneCell'=true) (w0:World) (fp0:List Nat) (R:List Asn):(gFr15 β rb hk mk dk hv mv dv n2 c2 a2 rx ry w0 fp0 R).Ok 18:=by
 cases β <;> exact Rg.ok _ 18 [5,6,10,11,14,17] ⟨.load _ 5 0 0, .del _ 6 1 0 _ rx (delK_spec _) hmx hsx h1x, .load _ 10 0 1, .del _ 11 2 0 _ ry (delV_spec _) hmy hsy h1y, .store _ 14 0 0, .store _ 17 0 1,trivial⟩
theorem cdFr15 (β:Bool):IsSq (BFill β) [1,4,1,3,1,2,1,1,1] 15:=by cases β <;> exact isq (by kernel_rfl)
noncomputable def gFr16 (β:Bool) (rb n2 c2 un uc vn vc:Nat) (ua va a2:Option Addr):=rg Tryz.prog (BFill β) 16 310 [(276,3)] [(9,pV rb 0)] (Vq 0 276 [Kp rb 0,Kv (.bool (n2==0)),Kv (.bool (!(n2==0)))]) [Bk rb (tN β) [.slice ua un uc, .slice va vn vc, .slice a2 n2 c2]]
theorem obFr16 (β:Bool) (rb n2 c2 un uc vn vc:Nat) (ua va a2:Option Addr)  (w0:World) (fp0:List Nat) (R:List Asn):(gFr16 β rb n2 c2 un uc vn vc ua va a2 w0 fp0 R).Ok 3:=by
 cases β <;> exact Rg.ok _ 3 [1] ⟨.ask1 _ 1 0 (fun w fp h=> (leaf_calls rb _ _ a2 n2 c2 w h).mono fun e w' ⟨h1,h2⟩=> ⟨h1,h2 ▸ Below.refl _ _⟩),trivial⟩
theorem cdFr16 (β:Bool):IsSq (BFill β) [1,4,1,3,1,2,1,1,1,1] 16:=by cases β <;> exact isq (by kernel_rfl)
theorem ccFr278 (β:Bool):isCond (csnd (csnd (csnd (csnd (csnd (cthen (csnd (celse (csnd (cbody (csnd (bodyC (BFill β)))))))))))))=true∧ccond (csnd (csnd (csnd (csnd (csnd (cthen (csnd (celse (csnd (cbody (csnd (bodyC (BFill β)))))))))))))=.tmp 278:=by cases β <;> exact ⟨kr (by kernel_rfl),kr (by kernel_rfl)⟩
noncomputable def gFr17 (β:Bool) (cb rb gz n2 c2 en ec fn fc un uc vn vc:Nat) (ea fa ua va:Option Addr) (qp pz:Value) (rz cz:List Value):=rg Tryz.prog (BFill β) 17 310 [(279,15)] [(6,pV cb 0),(9,pV rb 0)] (Vq 0 279 [Kp cb 0,Kp cb 0,Kp cb 0,Kp cb 2,Kv qp,Kp rb 0,Kp rb 0,Kp rb 2,Ks gz n2 c2,Kp gz 0,Kv pz,Vf.box,Vf.slice,Kp cb 0,Kp cb 2]) [.new 11 [290] fun g=> boxA (tP β) (g 290) pz, .blk cb (tN β) [⟨.slice ea en ec,[]⟩,⟨.slice fa fn fc,[]⟩,⟨qp,[(15, .s 291)]⟩], .sl (tP β) (qp) cz [(12,some (.s 291),(cz++[pz]))],Bk rb (tN β) [.slice ua un uc, .slice va vn vc,sV gz n2 c2], .sl (tP β) (sV gz n2 c2) rz []]
theorem obFr17 (β:Bool) (cb rb gz n2 c2 en ec fn fc un uc vn vc:Nat) (ea fa ua va:Option Addr) (qp pz:Value) (rz cz:List Value) (hl:0 < n2) (hpz:rz[0]? =some pz) (h1p:pz.oneCell'=true) (hcz:cz.length+1 < 1099511627776) (w0:World) (fp0:List Nat) (R:List Asn):(gFr17 β cb rb gz n2 c2 en ec fn fc un uc vn vc ea fa ua va qp pz rz cz w0 fp0 R).Ok 16:=by
 cases β <;> exact Rg.ok _ 16 [4,8,9,10,11,12,15] ⟨.load _ 4 1 2, .load _ 8 3 2, .index _ 9 gz n2 c2 0 hl, .elem _ 10 4 0 hpz, .box _ 11 0 h1p, .appB _ 12 0 2 cz (appP_spec _) hcz h1p, .store _ 15 1 2,trivial⟩
theorem cdFr17 (β:Bool):IsSq (BFill β) [1,4,1,3,1,2,1,1,1,1,1,2] 17:=by cases β <;> exact isq (by kernel_rfl)
noncomputable def gFr18 (β:Bool) (rb gz n2 c2 un uc vn vc:Nat) (ua va:Option Addr) (rz:List Value):=rg Tryz.prog (BFill β) 18 310 [(294,8)] [(9,pV rb 0)] (Vq 0 294 [Kp rb 0,Kp rb 0,Kp rb 0,Kp rb 2,Ks gz n2 c2,Vf.slice,Kp rb 0,Kp rb 2]) [.blk rb (tN β) [⟨.slice ua un uc,[]⟩,⟨.slice va vn vc,[]⟩,⟨sV gz n2 c2,[(8, .s 299)]⟩], .sl (tP β) (sV gz n2 c2) rz [(5,some (.s 299),(rz.eraseIdx 0))]]
theorem obFr18 (β:Bool) (rb gz n2 c2 un uc vn vc:Nat) (ua va:Option Addr) (rz:List Value) (hl:0 < rz.length) (hs:rz.length < 1099511627776) (h1z:∀u∈rz,u.oneCell'=true) (w0:World) (fp0:List Nat) (R:List Asn):(gFr18 β rb gz n2 c2 un uc vn vc ua va rz w0 fp0 R).Ok 9:=by
 cases β <;> exact Rg.ok _ 9 [4,5,8] ⟨.load _ 4 0 2, .del _ 5 1 0 _ rz (delP_spec _) hl hs h1z, .store _ 8 0 2,trivial⟩
theorem cdFr18 (β:Bool):IsRg (BFill β) [1,4,1,3,1,2,1,1,1,1,1,2,1] 18:=by cases β <;> exact irg (by kernel_rfl)
theorem isSkipFr0 (β:Bool):isSkip (celse (csnd (csnd (csnd (csnd (csnd (cthen (csnd (celse (csnd (cbody (csnd (bodyC (BFill β))))))))))))))=true:=by cases β <;> exact kr (by kernel_rfl)
set_option maxHeartbeats 4000000 in
theorem fillB (β:Bool) (tb b rb cb i gk nk ck gv nv cv gp np cp hk mk dk hv mv dv n2 c2:Nat) (qk qv qp ky vy nk1 nv1:Value) (a2:Option Addr) (xs ys zs rx ry rz cx cy cz:List Value) (hnk:nk=xs.length) (hnv:nv=ys.length) (hnp:np=zs.length) (hky:xs[i]? =some ky) (hvy:ys[i]? =some vy) (hrb:zs[i+1]? =some (ptrV rb)) (hm1:rx[0]? =some nk1) (hm2:ry[0]? =some nv1) (hmk:mk=rx.length) (hmv:mv=ry.length) (hn2:n2=rz.length)
 (_hsx:xs.length < 1099511627776) (hsr:rx.length < 1099511627776) (hsry:ry.length < 1099511627776) (hsrz:rz.length < 1099511627776) (hscx:cx.length+1 < 1099511627776) (hscy:cy.length+1 < 1099511627776) (hscz:cz.length+1 < 1099511627776) (hszs:zs.length < 1099511627776) (h1xs:∀u∈xs,u.oneCell'=true) (h1ys:∀u∈ys,u.oneCell'=true) (h1rx:∀u∈rx,u.oneCell'=true) (h1ry:∀u∈ry,u.oneCell'=true) (h1rz:∀u∈rz,u.oneCell'=true) (_h1cx:∀u∈cx,u.oneCell'=true) (_h1cy:∀u∈cy,u.oneCell'=true) (_h1cz:∀u∈cz,u.oneCell'=true) (Q:Exit→Act→World→Prop) (A0:Act) (w0 w:World) (fp0:List Nat) (R:List Asn) (K0:Knows 310 A0 [(0,pV tb 0),(1,pV b 0),(2,nV i),(6,pV cb 0)])
 (hQ:∀A w',(∃nt fs,Knows nt A fs)→∀(ks' vs' ps' rk' rv' rp' ck' cv' cp':Value) (rz' cz':List Value),(rz=[]∧rz'=rz∧cz'=cz)∨(∃pz,rz[0]? =some pz∧rz'=rz.eraseIdx 0∧cz'=cz++[pz])→St w0 fp0 ([blkA b (tN β) #[ks',vs',ps'],slA (tK β) ks' (xs.set i nk1),slA (tV β) vs' (ys.set i nv1),slA (tP β) ps' zs,blkA rb (tN β) #[rk',rv',rp'],slA (tK β) rk' (rx.eraseIdx 0),slA (tV β) rv' (ry.eraseIdx 0),slA (tP β) rp' rz',blkA cb (tN β) #[ck',cv',cp'],slA (tK β) ck' (cx++[ky]),slA (tV β) cv' (cy++[vy]),slA (tP β) cp' cz']++R) w'→Q .normal A w')
 (hS:St w0 fp0 ([blkA b (tN β) #[sV gk nk ck,sV gv nv cv,sV gp np cp],slA (tK β) (sV gk nk ck) xs,slA (tV β) (sV gv nv cv) ys,slA (tP β) (sV gp np cp) zs,blkA rb (tN β) #[sV hk mk dk,sV hv mv dv, .slice a2 n2 c2],slA (tK β) (sV hk mk dk) rx,slA (tV β) (sV hv mv dv) ry,slA (tP β) (.slice a2 n2 c2) rz,blkA cb (tN β) #[qk,qv,qp],slA (tK β) (qk) cx,slA (tV β) (qv) cy,slA (tP β) (qp) cz]++R) w):(cthen (csnd (celse (csnd (cbody (csnd (bodyC (BFill β)))))))).wp Tryz.prog Q A0 w:=by
 refine wp_seqT (cdFr12 β).sq ?_
 refine wp_regT (obFr12 β b rb i gk nk ck gv nv cv gp np cp zs (by rw [hnp];exact (List.getElem?_eq_some_iff.1 hrb).1) hrb (by omega) _ _ _) (by kernel_rfl) (cdFr12 β).cd (K0.sub (by kernel_rfl)) (St_re hS [0,3] [1,2,4,5,6,7,8,9,10,11] (by kernel_rfl)) fun A1 w1 N1 H1=> ?_
 have S1:St w0 fp0 ([blkA b (tN β) #[sV gk nk ck,sV gv nv cv,sV gp np cp],slA (tP β) (sV gp np cp) zs,slA (tK β) (sV gk nk ck) xs,slA (tV β) (sV gv nv cv) ys,blkA rb (tN β) #[sV hk mk dk,sV hv mv dv, .slice a2 n2 c2],slA (tK β) (sV hk mk dk) rx,slA (tV β) (sV hv mv dv) ry,slA (tP β) (.slice a2 n2 c2) rz,blkA cb (tN β) #[qk,qv,qp],slA (tK β) (qk) cx,slA (tV β) (qv) cy,slA (tP β) (qp) cz]++R) w1:=H1
 have K1:Knows 310 A1 [(0,pV tb 0),(1,pV b 0),(2,nV i),(6,pV cb 0),(9,pV rb 0)]:=N1.knows K0 (by kernel_rfl)
 refine wp_seqT (cdFr13 β).sq ?_
 refine wp_regT (obFr13 β b cb i gk nk ck gv nv cv gp np cp qk qv qp ky vy xs ys cx cy (by rw [hnk];exact (List.getElem?_eq_some_iff.1 hky).1) (by rw [hnv];exact (List.getElem?_eq_some_iff.1 hvy).1) hky hvy (h1xs _ (List.mem_of_getElem? hky)) (h1ys _ (List.mem_of_getElem? hvy)) hscx hscy _ _ _) (by kernel_rfl) (cdFr13 β).cd (K1.sub (by kernel_rfl)) (St.emp.2 (St.emp.2 (St_re S1 [0,2,3,8,9,10] [1,4,5,6,7,11] (by kernel_rfl)))) fun A2 w2 N2 H2=> ?_
 have S2:St w0 fp0 ([blkA b (tN β) #[sV gk nk ck,sV gv nv cv,sV gp np cp],slA (tK β) (sV gk nk ck) xs,slA (tV β) (sV gv nv cv) ys,blkA cb (tN β) #[slots A2 218,slots A2 231,qp],slA (tK β) (slots A2 218) (cx++[ky]),slA (tV β) (slots A2 231) (cy++[vy]),slA (tP β) (sV gp np cp) zs,blkA rb (tN β) #[sV hk mk dk,sV hv mv dv, .slice a2 n2 c2],slA (tK β) (sV hk mk dk) rx,slA (tV β) (sV hv mv dv) ry,slA (tP β) (.slice a2 n2 c2) rz,slA (tP β) (qp) cz]++R) w2:=(St.drop (St.drop H2))
 have K2:Knows 310 A2 [(0,pV tb 0),(1,pV b 0),(2,nV i),(6,pV cb 0),(9,pV rb 0)]:=N2.knows K1 (by kernel_rfl)
 obtain ⟨ea,en,ec,e218⟩:∃a n c,slots A2 218=.slice a n c:=⟨_,_,_,N2.val 14 rfl⟩
 rw [e218] at S2
 obtain ⟨fa,fn,fc,e231⟩:∃a n c,slots A2 231=.slice a n c:=⟨_,_,_,N2.val 27 rfl⟩
 rw [e231] at S2
 refine wp_seqT (cdFr14 β).sq ?_
 refine wp_regT (obFr14 β b rb i gk nk ck gv nv cv gp np cp hk mk dk hv mv dv n2 c2 nk1 nv1 a2 xs ys rx ry (by rw [hnk];exact (List.getElem?_eq_some_iff.1 hky).1) (by rw [hnv];exact (List.getElem?_eq_some_iff.1 hvy).1) hnk hnv (by rw [hmk];exact (List.getElem?_eq_some_iff.1 hm1).1) (by rw [hmv];exact (List.getElem?_eq_some_iff.1 hm2).1) hm1 hm2 (h1rx _ (List.mem_of_getElem? hm1)) (h1ry _ (List.mem_of_getElem? hm2)) _ _ _) (by kernel_rfl) (cdFr14 β).cd (K2.sub (by kernel_rfl)) (St_re S2 [0,1,2,7,8,9] [3,4,5,6,10,11] (by kernel_rfl)) fun A3 w3 N3 H3=> ?_
 have S3:St w0 fp0 ([blkA b (tN β) #[sV gk nk ck,sV gv nv cv,sV gp np cp],slA (tK β) (sV gk nk ck) (xs.set i nk1),slA (tV β) (sV gv nv cv) (ys.set i nv1),blkA rb (tN β) #[sV hk mk dk,sV hv mv dv, .slice a2 n2 c2],slA (tK β) (sV hk mk dk) rx,slA (tV β) (sV hv mv dv) ry,blkA cb (tN β) #[.slice ea en ec, .slice fa fn fc,qp],slA (tK β) (.slice ea en ec) (cx++[ky]),slA (tV β) (.slice fa fn fc) (cy++[vy]),slA (tP β) (sV gp np cp) zs,slA (tP β) (.slice a2 n2 c2) rz,slA (tP β) (qp) cz]++R) w3:=H3
 have K3:Knows 310 A3 [(0,pV tb 0),(1,pV b 0),(2,nV i),(6,pV cb 0),(9,pV rb 0)]:=N3.knows K2 (by kernel_rfl)
 refine wp_seqT (cdFr15 β).sq ?_
 refine wp_regT (obFr15 β rb hk mk dk hv mv dv n2 c2 a2 rx ry (List.getElem?_eq_some_iff.1 hm1).1 (List.getElem?_eq_some_iff.1 hm2).1 hsr hsry h1rx h1ry _ _ _) (by kernel_rfl) (cdFr15 β).cd (K3.sub (by kernel_rfl)) (St_re S3 [3,4,5] [0,1,2,6,7,8,9,10,11] (by kernel_rfl)) fun A4 w4 N4 H4=> ?_
 have S4:St w0 fp0 ([blkA rb (tN β) #[slots A4 266,slots A4 271, .slice a2 n2 c2],slA (tK β) (slots A4 266) (rx.eraseIdx 0),slA (tV β) (slots A4 271) (ry.eraseIdx 0),blkA b (tN β) #[sV gk nk ck,sV gv nv cv,sV gp np cp],slA (tK β) (sV gk nk ck) (xs.set i nk1),slA (tV β) (sV gv nv cv) (ys.set i nv1),blkA cb (tN β) #[.slice ea en ec, .slice fa fn fc,qp],slA (tK β) (.slice ea en ec) (cx++[ky]),slA (tV β) (.slice fa fn fc) (cy++[vy]),slA (tP β) (sV gp np cp) zs,slA (tP β) (.slice a2 n2 c2) rz,slA (tP β) (qp) cz]++R) w4:=H4
 have K4:Knows 310 A4 [(0,pV tb 0),(1,pV b 0),(2,nV i),(6,pV cb 0),(9,pV rb 0)]:=N4.knows K3 (by kernel_rfl)
 obtain ⟨ua,un,uc,e266⟩:∃a n c,slots A4 266=.slice a n c:=⟨_,_,_,N4.val 6 rfl⟩
 rw [e266] at S4
 obtain ⟨va,vn,vc,e271⟩:∃a n c,slots A4 271=.slice a n c:=⟨_,_,_,N4.val 11 rfl⟩
 rw [e271] at S4
 refine wp_seqT (cdFr16 β).sq ?_
 refine wp_regT (obFr16 β rb n2 c2 un uc vn vc ua va a2  _ _ _) (by kernel_rfl) (cdFr16 β).cd (K4.sub (by kernel_rfl)) (St_re S4 [0] [1,2,3,4,5,6,7,8,9,10,11] (by kernel_rfl)) fun A5 w5 N5 H5=> ?_
 have S5:St w0 fp0 ([blkA rb (tN β) #[.slice ua un uc, .slice va vn vc, .slice a2 n2 c2],slA (tK β) (.slice ua un uc) (rx.eraseIdx 0),slA (tV β) (.slice va vn vc) (ry.eraseIdx 0),blkA b (tN β) #[sV gk nk ck,sV gv nv cv,sV gp np cp],slA (tK β) (sV gk nk ck) (xs.set i nk1),slA (tV β) (sV gv nv cv) (ys.set i nv1),blkA cb (tN β) #[.slice ea en ec, .slice fa fn fc,qp],slA (tK β) (.slice ea en ec) (cx++[ky]),slA (tV β) (.slice fa fn fc) (cy++[vy]),slA (tP β) (sV gp np cp) zs,slA (tP β) (.slice a2 n2 c2) rz,slA (tP β) (qp) cz]++R) w5:=H5
 have K5:Knows 310 A5 [(0,pV tb 0),(1,pV b 0),(2,nV i),(6,pV cb 0),(9,pV rb 0),(278, .bool (!(n2==0)))]:=N5.knows K4 (by kernel_rfl)
 refine wp_condK (ccFr278 β) K5 (by rfl) (fun hq=> ?_) (fun hq=> ?_)
 · skip
   have hz:0 < rz.length:=by simp at hq;omega
   obtain ⟨_,qz⟩:=St.has S5 10 rfl
   obtain ⟨gz,cz2,ez,hcz2, -⟩:=sl_some qz hz
   obtain ⟨rfl, -,rfl⟩:=Value.slice.inj ez
   obtain ⟨pz,hpz⟩:∃pz,rz[0]? =some pz:=⟨_,List.getElem?_eq_getElem hz⟩
   refine wp_seqT (cdFr17 β).sq ?_
   refine wp_regT (obFr17 β cb rb gz n2 c2 en ec fn fc un uc vn vc ea fa ua va qp pz rz cz (by omega) hpz (h1rz _ (List.mem_of_getElem? hpz)) hscz _ _ _) (by kernel_rfl) (cdFr17 β).cd (K5.sub (by kernel_rfl)) (St.emp.2 (St_re S5 [6,11,0,10] [1,2,3,4,5,7,8,9] (by kernel_rfl))) fun A6 w6 N6 H6=> ?_
   have S6:St w0 fp0 ([blkA cb (tN β) #[.slice ea en ec, .slice fa fn fc,slots A6 291],slA (tP β) (slots A6 291) (cz++[pz]),blkA rb (tN β) #[.slice ua un uc, .slice va vn vc,sV gz n2 c2],slA (tP β) (sV gz n2 c2) rz,slA (tK β) (.slice ua un uc) (rx.eraseIdx 0),slA (tV β) (.slice va vn vc) (ry.eraseIdx 0),blkA b (tN β) #[sV gk nk ck,sV gv nv cv,sV gp np cp],slA (tK β) (sV gk nk ck) (xs.set i nk1),slA (tV β) (sV gv nv cv) (ys.set i nv1),slA (tK β) (.slice ea en ec) (cx++[ky]),slA (tV β) (.slice fa fn fc) (cy++[vy]),slA (tP β) (sV gp np cp) zs]++R) w6:=(St.drop H6)
   have K6:Knows 310 A6 [(0,pV tb 0),(1,pV b 0),(2,nV i),(6,pV cb 0),(9,pV rb 0),(278, .bool (!(n2==0)))]:=N6.knows K5 (by kernel_rfl)
   obtain ⟨xa,xn,xc,e291⟩:∃a n c,slots A6 291=.slice a n c:=⟨_,_,_,N6.val 12 rfl⟩
   rw [e291] at S6
   refine wp_regT (obFr18 β rb gz n2 c2 un uc vn vc ua va rz hz hsrz h1rz _ _ _) (by kernel_rfl) (cdFr18 β).cd (K6.sub (by kernel_rfl)) (St_re S6 [2,3] [0,1,4,5,6,7,8,9,10,11] (by kernel_rfl)) fun A7 w7 N7 H7=> ?_
   have S7:St w0 fp0 ([blkA rb (tN β) #[.slice ua un uc, .slice va vn vc,slots A7 299],slA (tP β) (slots A7 299) (rz.eraseIdx 0),blkA cb (tN β) #[.slice ea en ec, .slice fa fn fc, .slice xa xn xc],slA (tP β) (.slice xa xn xc) (cz++[pz]),slA (tK β) (.slice ua un uc) (rx.eraseIdx 0),slA (tV β) (.slice va vn vc) (ry.eraseIdx 0),blkA b (tN β) #[sV gk nk ck,sV gv nv cv,sV gp np cp],slA (tK β) (sV gk nk ck) (xs.set i nk1),slA (tV β) (sV gv nv cv) (ys.set i nv1),slA (tK β) (.slice ea en ec) (cx++[ky]),slA (tV β) (.slice fa fn fc) (cy++[vy]),slA (tP β) (sV gp np cp) zs]++R) w7:=H7
   have K7:Knows 310 A7 [(0,pV tb 0),(1,pV b 0),(2,nV i),(6,pV cb 0),(9,pV rb 0),(278, .bool (!(n2==0)))]:=N7.knows K6 (by kernel_rfl)
   exact hQ _ _ ⟨_,_,K7⟩ _ _ _ _ _ _ _ _ _ _ _ (.inr ⟨pz,hpz,rfl,rfl⟩) (St_re S7 [6,7,8,11,0,4,5,1,2,9,10,3] [] (by kernel_rfl))
 · skip
   have hz:rz=[]:=List.length_eq_zero_iff.1 (by simp at hq;omega)
   refine wp_skipT (isSkipFr0 β) ?_
   exact hQ _ _ ⟨_,_,K5⟩ _ _ _ _ _ _ _ _ _ _ _ (.inl ⟨hz,rfl,rfl⟩) (St_re S5 [3,4,5,9,0,1,2,10,6,7,8,11] [] (by kernel_rfl))
end Go.Proofs.YtpdlkdoogojboaaGreat
/- fill, over both trees. -/
namespace Go.Proofs.YtpdlkdoogojboaaGreat
open Go Go.RowKit
set_option maxRecDepth 100000
theorem entFm (β:Bool):Tryz.prog.funcs[fFill β]? =some (BFill β)∧(BFill β).body=some (bodyC (BFill β))∧(BFill β).ntmps=310:=by cases β <;> exact ⟨kr (by kernel_rfl),kr (by kernel_rfl),kr (by kernel_rfl)⟩
noncomputable def gFm0 (β:Bool) (b cb i nk ck gp np cp:Nat) (vs:Value) (ak:Option Addr) (zs:List Value):=rg Tryz.prog (BFill β) 0 310 [(10,7),(6,1)] [(1,pV b 0),(2,nV i)] (Vq 0 10 [Kp b 0,Kp b 0,Kp b 2,Ks gp np cp,Kn i,Kp gp i,Kp cb 0]++Vq 7 6 [Kp cb 0]) [Bk b (tN β) [.slice ak nk ck,vs,sV gp np cp], .sl (tP β) (sV gp np cp) zs []]
theorem obFm0 (β:Bool) (b cb i nk ck gp np cp:Nat) (vs:Value) (ak:Option Addr) (zs:List Value) (hi:i < np) (hcb:zs[i]? =some (ptrV cb)) (w0:World) (fp0:List Nat) (R:List Asn):(gFm0 β b cb i nk ck gp np cp vs ak zs w0 fp0 R).Ok 8:=by
 cases β <;> exact Rg.ok _ 8 [3,5,6] ⟨.load _ 3 0 2, .index _ 5 gp np cp i hi, .elem _ 6 1 i hcb,trivial⟩
theorem cdFm0 (β:Bool):IsSq (BFill β) [] 0:=by cases β <;> exact isq (by kernel_rfl)
theorem isBlkFm0 (β:Bool):isBlk (csnd (bodyC (BFill β)))=true:=by cases β <;> exact kr (by kernel_rfl)
theorem sqFm1 (β:Bool):Sq (BFill β) [1,4]:=by cases β <;> exact isQ (by kernel_rfl)
noncomputable def gFm2z (β:Bool) (tb b:Nat):=rg Tryz.prog (BFill β) 2 310 [(22,19),(21,1)] [(2,nV 0),(1,pV b 0),(0,pV tb 0)] (Vq 0 22 [Kn 0,Kv (.bool false),Kv (.bool false),Kv undef,Kv undef,Kv undef,Kv undef,Kv undef,Kv undef,Kv undef,Kv undef,Kv undef,Kv undef,Kv undef,Kv undef,Kv undef,Kv undef,Kv undef,Kv (.bool false)]++Vq 19 21 [Kv (.bool false)]) []
theorem obFm2z (β:Bool) (tb b:Nat)  (w0:World) (fp0:List Nat) (R:List Asn):(gFm2z β tb b w0 fp0 R).Ok 20:=by
 cases β <;> exact Rg.ok _ 20 [1,3,4,5,6,7,8,9,10,11,12,13,14,15,16,17] ⟨.gtr _ 1 0 0, .skip _ 3, .skip _ 4, .skip _ 5, .skip _ 6, .skip _ 7, .skip _ 8, .skip _ 9, .skip _ 10, .skip _ 11, .skip _ 12, .skip _ 13, .skip _ 14, .skip _ 15, .skip _ 16, .skip _ 17,trivial⟩
theorem cdFm2z (β:Bool):IsRg (BFill β) [1,4,0] 2:=by cases β <;> exact irg (by kernel_rfl)
noncomputable def gFm2s (β:Bool) (tb o b lb j ml nk ck gp np cp:Nat) (vs r nn:Value) (ak:Option Addr) (zs:List Value) (KD:Asn):=rg Tryz.prog (BFill β) 2 310 [(22,19),(21,1)] [(2,nV (j+1)),(1,pV b 0),(0,pV tb 0)] (Vq 0 22 [Kn (j+1),Kv (.bool true),Kv (.bool true),Kp b 0,Kp b 0,Kp b 2,Ks gp np cp,Kn (j+1),Kn j,Kp gp j,Kp lb 0,Kp lb 0,Kp lb 0,Fv [35] fun g=> .slice (sa (g 35)) ml (sc (g 35)),Kn ml,Kp tb 0,Kn (least o),Kv (.bool (decide (least o < ml))),Kv (.bool (decide (least o < ml)))]++Vq 19 21 [Kv (.bool (decide (least o < ml)))]) [Bk b (tN β) [.slice ak nk ck,vs,sV gp np cp], .sl (tP β) (sV gp np cp) zs [], .all (KD),Bk tb (tT β) [r,nV o,nn]]
theorem obFm2s (β:Bool) (tb o b lb j ml nk ck gp np cp:Nat) (vs r nn:Value) (ak:Option Addr) (zs:List Value) (KD:Asn) (ho:3≤o) (ho':o≤1024) (hj:j < np) (hs:np < 1099511627776) (hlb:zs[j]? =some (ptrV lb)) (hl:∀w f,KD.p w f→∃ka kc,w.cell? ⟨lb,0,none⟩=some (.slice ka ml kc)) (w0:World) (fp0:List Nat) (R:List Asn):(gFm2s β tb o b lb j ml nk ck gp np cp vs r nn ak zs KD w0 fp0 R).Ok 20:=by
 cases β <;> exact Rg.ok _ 20 [1,6,8,9,10,13,16,17] ⟨.gtr _ 1 (j+1) 0, .load _ 6 0 2, .sub _ 8 (j+1) (1) ((j:Nat):Int), .index _ 9 gp np cp j hj, .elem _ 10 1 j hlb, .loadBy _ 13 2 (fun w f h=> let ⟨_,_,e⟩:=hl w f h;⟨_,e,fun _=> rfl⟩), .ask1 _ 16 3 (fun w fp h=> (least_calls tb _ o _ w ho ho' h).mono fun e w' ⟨h1,h2⟩=> ⟨h1,h2 ▸ Below.refl _ _⟩), .gtr _ 17 ml (least o),trivial⟩
theorem cdFm2s (β:Bool):IsRg (BFill β) [1,4,0] 2:=by cases β <;> exact irg (by kernel_rfl)
theorem ccFm21 (β:Bool):isCond (csnd (cbody (csnd (bodyC (BFill β)))))=true∧ccond (csnd (cbody (csnd (bodyC (BFill β)))))=.tmp 21:=by cases β <;> exact ⟨kr (by kernel_rfl),kr (by kernel_rfl)⟩
theorem sqFm2 (β:Bool):Sq (BFill β) [1,4,1,3]:=by cases β <;> exact isQ (by kernel_rfl)
noncomputable def gFm11s (β:Bool) (tb o b rb i mr nk ck gp np cp:Nat) (vs r nn:Value) (ak:Option Addr) (zs:List Value) (KD:Asn):=rg Tryz.prog (BFill β) 11 310 [(172,24),(171,1)] [(2,nV i),(1,pV b 0),(0,pV tb 0)] (Vq 0 172 [Kn i,Kp b 0,Kp b 0,Kp b 0,Kv (.slice ak nk ck),Kn nk,Kv (.bool true),Kv (.bool true),Kp b 0,Kp b 0,Kp b 2,Ks gp np cp,Kn i,Kn (i+1),Kp gp (i+1),Kp rb 0,Kp rb 0,Kp rb 0,Fv [190] fun g=> .slice (sa (g 190)) mr (sc (g 190)),Kn mr,Kp tb 0,Kn (least o),Kv (.bool (decide (least o < mr))),Kv (.bool (decide (least o < mr)))]++Vq 24 171 [Kv (.bool (decide (least o < mr)))]) [Bk b (tN β) [.slice ak nk ck,vs,sV gp np cp], .sl (tP β) (sV gp np cp) zs [], .all (KD),Bk tb (tT β) [r,nV o,nn]]
theorem obFm11s (β:Bool) (tb o b rb i mr nk ck gp np cp:Nat) (vs r nn:Value) (ak:Option Addr) (zs:List Value) (KD:Asn) (ho:3≤o) (ho':o≤1024) (hin:i < nk) (hj:i+1 < np) (hs:np < 1099511627776) (hrb:zs[i+1]? =some (ptrV rb)) (hr:∀w f,KD.p w f→∃ka kc,w.cell? ⟨rb,0,none⟩=some (.slice ka mr kc)) (w0:World) (fp0:List Nat) (R:List Asn):(gFm11s β tb o b rb i mr nk ck gp np cp vs r nn ak zs KD w0 fp0 R).Ok 25:=by
 cases β <;> exact Rg.ok _ 25 [4,6,11,13,14,15,18,21,22] ⟨.load _ 4 0 0, .lssT _ 6 i nk hin, .load _ 11 0 2, .add _ 13 (i) (1) ((i+1:Nat):Int), .index _ 14 gp np cp (i+1) hj, .elem _ 15 1 (i+1) hrb, .loadBy _ 18 2 (fun w f h=> let ⟨_,_,e⟩:=hr w f h;⟨_,e,fun _=> rfl⟩), .ask1 _ 21 3 (fun w fp h=> (least_calls tb _ o _ w ho ho' h).mono fun e w' ⟨h1,h2⟩=> ⟨h1,h2 ▸ Below.refl _ _⟩), .gtr _ 22 mr (least o),trivial⟩
theorem cdFm11s (β:Bool):IsRg (BFill β) [1,4,1,3,0] 11:=by cases β <;> exact irg (by kernel_rfl)
noncomputable def gFm11z (β:Bool) (tb b i nk ck gp np cp:Nat) (vs:Value) (ak:Option Addr):=rg Tryz.prog (BFill β) 11 310 [(172,24),(171,1)] [(2,nV i),(1,pV b 0),(0,pV tb 0)] (Vq 0 172 [Kn i,Kp b 0,Kp b 0,Kp b 0,Kv (.slice ak nk ck),Kn nk,Kv (.bool false),Kv (.bool false),Kv undef,Kv undef,Kv undef,Kv undef,Kv undef,Kv undef,Kv undef,Kv undef,Kv undef,Kv undef,Kv undef,Kv undef,Kv undef,Kv undef,Kv undef,Kv (.bool false)]++Vq 24 171 [Kv (.bool false)]) [Bk b (tN β) [.slice ak nk ck,vs,sV gp np cp]]
theorem obFm11z (β:Bool) (tb b i nk ck gp np cp:Nat) (vs:Value) (ak:Option Addr) (hin:¬ i < nk) (w0:World) (fp0:List Nat) (R:List Asn):(gFm11z β tb b i nk ck gp np cp vs ak w0 fp0 R).Ok 25:=by
 cases β <;> exact Rg.ok _ 25 [4,6,8,9,10,11,12,13,14,15,16,17,18,19,20,21,22] ⟨.load _ 4 0 0, .lssF _ 6 i nk hin, .skip _ 8, .skip _ 9, .skip _ 10, .skip _ 11, .skip _ 12, .skip _ 13, .skip _ 14, .skip _ 15, .skip _ 16, .skip _ 17, .skip _ 18, .skip _ 19, .skip _ 20, .skip _ 21, .skip _ 22,trivial⟩
theorem cdFm11z (β:Bool):IsRg (BFill β) [1,4,1,3,0] 11:=by cases β <;> exact irg (by kernel_rfl)
theorem ccFm171 (β:Bool):isCond (csnd (celse (csnd (cbody (csnd (bodyC (BFill β)))))))=true∧ccond (csnd (celse (csnd (cbody (csnd (bodyC (BFill β)))))))=.tmp 171:=by cases β <;> exact ⟨kr (by kernel_rfl),kr (by kernel_rfl)⟩
noncomputable def gFm19 (β:Bool) (i:Nat):=rg Tryz.prog (BFill β) 19 310 [(303,2),(302,1)] [(2,nV i)] (Vq 0 303 [Kn i,Kv (.bool (decide (0 < i)))]++Vq 2 302 [Kv (.bool (decide (0 < i)))]) []
theorem obFm19 (β:Bool) (i:Nat)  (w0:World) (fp0:List Nat) (R:List Asn):(gFm19 β i w0 fp0 R).Ok 3:=by
 cases β <;> exact Rg.ok _ 3 [1] ⟨.gtr _ 1 i 0,trivial⟩
theorem cdFm19 (β:Bool):IsSq (BFill β) [1,4,1,3,1,3] 19:=by cases β <;> exact isq (by kernel_rfl)
theorem ccFm302 (β:Bool):isCond (csnd (celse (csnd (celse (csnd (cbody (csnd (bodyC (BFill β)))))))))=true∧ccond (csnd (celse (csnd (celse (csnd (cbody (csnd (bodyC (BFill β)))))))))=.tmp 302:=by cases β <;> exact ⟨kr (by kernel_rfl),kr (by kernel_rfl)⟩
noncomputable def gFm20 (β:Bool) (tb b i:Nat) (X0 X1:Asn):=rg Tryz.prog (BFill β) 20 310 [(305,5)] [(0,pV tb 0),(1,pV b 0),(2,nV i)] (Vq 0 305 [Kp tb 0,Kp b 0,Kn i,Kn (i - 1),Kv (.tuple #[])]) [.gen [4] [] fun L _g=> match L 4 with | true=> X1 | false=> X0]
theorem obFm20 (β:Bool) (tb b i:Nat) (X0 X1:Asn) (h0:0 < i) (hs:i < 1099511627776) (w0:World) (fp0:List Nat) (R:List Asn) (hc:∀w,St w0 fp0 ([X0]++R) w→Calls Tryz.prog (fMerge β) #[ptrV tb,ptrV b, .int .i64 ((i - 1:Nat):Int)] w fun e w'=> e=.returned (.tuple #[])∧St w0 fp0 ([X1]++R) w'):(gFm20 β tb b i X0 X1 w0 fp0 R).Ok 5:=by
 cases β <;> exact Rg.ok _ 5 [3,4] ⟨.sub _ 3 (i) (1) ((i - 1:Nat):Int), .callF _ 4 [X0] [X1] hc,trivial⟩
theorem cdFm20 (β:Bool):IsRg (BFill β) [1,4,1,3,1,3,1,2] 20:=by cases β <;> exact irg (by kernel_rfl)
theorem resFm (β:Bool):(BFill β).results=#[]:=by cases β <;> exact kr (by kernel_rfl)
noncomputable def gFm1 (β:Bool) (tb b i:Nat) (X0 X1:Asn):=rg Tryz.prog (BFill β) 1 310 [(17,4)] [(0,pV tb 0),(1,pV b 0),(2,nV i)] (Vq 0 17 [Kp tb 0,Kp b 0,Kn i,Kv (.tuple #[])]) [.gen [3] [] fun L _g=> match L 3 with | true=> X1 | false=> X0]
theorem obFm1 (β:Bool) (tb b i:Nat) (X0 X1:Asn) (w0:World) (fp0:List Nat) (R:List Asn) (hc:∀w,St w0 fp0 ([X0]++R) w→Calls Tryz.prog (fMerge β) #[ptrV tb,ptrV b, .int .i64 i] w fun e w'=> e=.returned (.tuple #[])∧St w0 fp0 ([X1]++R) w'):(gFm1 β tb b i X0 X1 w0 fp0 R).Ok 4:=by
 cases β <;> exact Rg.ok _ 4 [3] ⟨.callF _ 3 [X0] [X1] hc,trivial⟩
theorem cdFm1 (β:Bool):IsRg (BFill β) [1,4,1,3,1,3,1,3] 1:=by cases β <;> exact irg (by kernel_rfl)
set_option maxHeartbeats 4000000 in
theorem fill_flat (β:Bool) (tb o b lb cb rb i ml mr nk ck gp np cp:Nat) (r nn vs:Value) (ak:Option Addr) (xs ys zs:List Value) (KD TF:Asn) (ho:3≤o) (ho':o≤1024) (hnp:np=zs.length) (hi:i < zs.length) (hs:zs.length < 1099511627776) (hnk:nk+1=zs.length) (hcb:zs[i]? =some (ptrV cb)) (hlb:0 < i→zs[i - 1]? =some (ptrV lb)) (hrb:i < nk→zs[i+1]? =some (ptrV rb))
 (hl:0 < i→∀w f,KD.p w f→∃ka kc,w.cell? ⟨lb,0,none⟩=some (.slice ka ml kc)) (hr:i < nk→∀w f,KD.p w f→∃ka kc,w.cell? ⟨rb,0,none⟩=some (.slice ka mr kc)) (w0 w:World) (fp0:List Nat) (R:List Asn)
 (HA:∀(Q:Exit→Act→World→Prop) (A:Act) (w:World),(0 < i∧least o < ml)→Knows 310 A [(0, .pointer (some ⟨tb,0,none⟩)),(1, .pointer (some ⟨b,0,none⟩)),(2, .int .i64 i),(6, .pointer (some ⟨cb,0,none⟩))]→St w0 fp0 ([blkA b (tN β) #[.slice ak nk ck,vs,sV gp np cp],slA (tK β) (.slice ak nk ck) xs,slA (tV β) (vs) ys,slA (tP β) (sV gp np cp) zs,KD,blkA tb (tT β) #[r,nV o,nn]]++R) w→(∀A w',(∃nt fs,Knows nt A fs)→St w0 fp0 ([TF,blkA tb (tT β) #[r, .int .i64 o,nn]]++R) w'→Q .normal A w')→(cthen (csnd (cbody (csnd (bodyC (BFill β)))))).wp Tryz.prog Q A w)
 (HB:∀(Q:Exit→Act→World→Prop) (A:Act) (w:World),¬ (0 < i∧least o < ml)∧i < nk∧least o < mr→Knows 310 A [(0, .pointer (some ⟨tb,0,none⟩)),(1, .pointer (some ⟨b,0,none⟩)),(2, .int .i64 i),(6, .pointer (some ⟨cb,0,none⟩))]→St w0 fp0 ([blkA b (tN β) #[.slice ak nk ck,vs,sV gp np cp],slA (tK β) (.slice ak nk ck) xs,slA (tV β) (vs) ys,slA (tP β) (sV gp np cp) zs,KD,blkA tb (tT β) #[r,nV o,nn]]++R) w→(∀A w',(∃nt fs,Knows nt A fs)→St w0 fp0 ([TF,blkA tb (tT β) #[r, .int .i64 o,nn]]++R) w'→Q .normal A w')→(cthen (csnd (celse (csnd (cbody (csnd (bodyC (BFill β)))))))).wp Tryz.prog Q A w)
 (HC:0 < i→¬ least o < ml→¬ (i < nk∧least o < mr)→∀w,St w0 fp0 ([blkA b (tN β) #[.slice ak nk ck,vs,sV gp np cp],slA (tK β) (.slice ak nk ck) xs,slA (tV β) (vs) ys,slA (tP β) (sV gp np cp) zs,KD,blkA tb (tT β) #[r,nV o,nn]]++R) w→Calls Tryz.prog (fMerge β) #[ptrV tb,ptrV b, .int .i64 ((i - 1:Nat):Int)] w fun e w'=> e=.returned (.tuple #[])∧St w0 fp0 ([TF,blkA tb (tT β) #[r, .int .i64 o,nn]]++R) w')
 (HD:i=0→¬ (i < nk∧least o < mr)→∀w,St w0 fp0 ([blkA b (tN β) #[.slice ak nk ck,vs,sV gp np cp],slA (tK β) (.slice ak nk ck) xs,slA (tV β) (vs) ys,slA (tP β) (sV gp np cp) zs,KD,blkA tb (tT β) #[r,nV o,nn]]++R) w→Calls Tryz.prog (fMerge β) #[ptrV tb,ptrV b, .int .i64 i] w fun e w'=> e=.returned (.tuple #[])∧St w0 fp0 ([TF,blkA tb (tT β) #[r, .int .i64 o,nn]]++R) w')
 (hS:St w0 fp0 ([blkA b (tN β) #[.slice ak nk ck,vs,sV gp np cp],slA (tK β) (.slice ak nk ck) xs,slA (tV β) (vs) ys,slA (tP β) (sV gp np cp) zs,KD,blkA tb (tT β) #[r,nV o,nn]]++R) w):Calls Tryz.prog (fFill β) #[ptrV tb,ptrV b, .int .i64 i] w fun e w'=> e=.returned (.tuple #[])∧St w0 fp0 ([TF,blkA tb (tT β) #[r, .int .i64 o,nn]]++R) w':=by
 refine calls_T [(0,pV tb 0),(1,pV b 0),(2,nV i)] (entFm β) (by simp) (by kernel_rfl) fun A0 K0=> ?_
 refine wp_seqT (cdFm0 β).sq ?_
 refine wp_regT (obFm0 β b cb i nk ck gp np cp vs ak zs (by omega) hcb _ _ _) (by kernel_rfl) (cdFm0 β).cd (K0.sub (by kernel_rfl)) (St_re hS [0,3] [1,2,4,5] (by kernel_rfl)) fun A1 w1 N1 H1=> ?_
 have S1:St w0 fp0 ([blkA b (tN β) #[.slice ak nk ck,vs,sV gp np cp],slA (tP β) (sV gp np cp) zs,slA (tK β) (.slice ak nk ck) xs,slA (tV β) (vs) ys,KD,blkA tb (tT β) #[r,nV o,nn]]++R) w1:=H1
 have K1:Knows 310 A1 [(0,pV tb 0),(1,pV b 0),(2,nV i),(6,pV cb 0)]:=N1.knows K0 (by kernel_rfl)
 refine wp_blkN (isBlkFm0 β) (fun _ _ _ h=> h) ?_
 refine wp_seqJ (sqFm1 β) (fun A w=> ∃(q1:Bool) (hq1:q1=true↔0 < i∧least o < ml),Knows 310 A [(0,pV tb 0),(1,pV b 0),(2,nV i),(6,pV cb 0),(21, .bool q1)]∧St w0 fp0 ([blkA b (tN β) #[.slice ak nk ck,vs,sV gp np cp],slA (tK β) (.slice ak nk ck) xs,slA (tV β) (vs) ys,slA (tP β) (sV gp np cp) zs,KD,blkA tb (tT β) #[r,nV o,nn]]++R) w) ?_ ?_
 · skip
   cases i with
   | zero=>
    refine wp_regT (obFm2z β tb b  _ _ _) (by kernel_rfl) (cdFm2z β).cd (K1.sub (by kernel_rfl)) (St_re S1 [] [0,1,2,3,4,5] (by kernel_rfl)) fun A2 w2 N2 H2=> ?_
    have S2:St w0 fp0 ([blkA b (tN β) #[.slice ak nk ck,vs,sV gp np cp],slA (tP β) (sV gp np cp) zs,slA (tK β) (.slice ak nk ck) xs,slA (tV β) (vs) ys,KD,blkA tb (tT β) #[r,nV o,nn]]++R) w2:=H2
    have K2:Knows 310 A2 [(0,pV tb 0),(1,pV b 0),(2,nV 0),(6,pV cb 0),(21, .bool false)]:=N2.knows K1 (by kernel_rfl)
    exact ⟨false,by simp,K2.sub (by kernel_rfl),(St_re S2 [0,2,3,1,4,5] [] (by kernel_rfl))⟩
   | succ j=>
    refine wp_regT (obFm2s β tb o b lb j ml nk ck gp np cp vs r nn ak zs KD ho ho' (by omega) (by omega) (hlb (by omega)) (hl (by omega)) _ _ _) (by kernel_rfl) (cdFm2s β).cd (K1.sub (by kernel_rfl)) (St_re S1 [0,1,4,5] [2,3] (by kernel_rfl)) fun A3 w3 N3 H3=> ?_
    have S3:St w0 fp0 ([blkA b (tN β) #[.slice ak nk ck,vs,sV gp np cp],slA (tP β) (sV gp np cp) zs,KD,blkA tb (tT β) #[r,nV o,nn],slA (tK β) (.slice ak nk ck) xs,slA (tV β) (vs) ys]++R) w3:=H3
    have K3:Knows 310 A3 [(0,pV tb 0),(1,pV b 0),(2,nV (j+1)),(6,pV cb 0),(21, .bool (decide (least o < ml)))]:=N3.knows K1 (by kernel_rfl)
    exact ⟨decide (least o < ml),by simp,K3.sub (by kernel_rfl),(St_re S3 [0,4,5,1,2,3] [] (by kernel_rfl))⟩
 · rintro A4 w4 ⟨q1,hq1,K4,S4⟩
   refine wp_condK (ccFm21 β) K4 (by rfl) (fun hq=> ?_) (fun hq=> ?_)
   · skip
     exact HA _ _ _ (hq1.1 hq) (K4.sub (by kernel_rfl)) (St_re S4 [0,1,2,3,4,5] [] (by kernel_rfl)) fun A w' hk h=> by obtain ⟨nt,fs,hk⟩:=hk;exact post_T hk (res0 (resFm β)) ⟨rfl,h⟩
   · skip
     have hn1:¬ (0 < i∧least o < ml):=fun h=> by rw [hq1.2 h] at hq;cases hq
     refine wp_seqJ (sqFm2 β) (fun A w=> ∃(q2:Bool) (hq2:q2=true↔i < nk∧least o < mr),Knows 310 A [(0,pV tb 0),(1,pV b 0),(2,nV i),(6,pV cb 0),(171, .bool q2)]∧St w0 fp0 ([blkA b (tN β) #[.slice ak nk ck,vs,sV gp np cp],slA (tK β) (.slice ak nk ck) xs,slA (tV β) (vs) ys,slA (tP β) (sV gp np cp) zs,KD,blkA tb (tT β) #[r,nV o,nn]]++R) w) ?_ ?_
     · skip
       by_cases hin:i < nk
       · skip
         refine wp_regT (obFm11s β tb o b rb i mr nk ck gp np cp vs r nn ak zs KD ho ho' hin (by omega) (by omega) (hrb hin) (hr hin) _ _ _) (by kernel_rfl) (cdFm11s β).cd (K4.sub (by kernel_rfl)) (St_re S4 [0,3,4,5] [1,2] (by kernel_rfl)) fun A5 w5 N5 H5=> ?_
         have S5:St w0 fp0 ([blkA b (tN β) #[.slice ak nk ck,vs,sV gp np cp],slA (tP β) (sV gp np cp) zs,KD,blkA tb (tT β) #[r,nV o,nn],slA (tK β) (.slice ak nk ck) xs,slA (tV β) (vs) ys]++R) w5:=H5
         have K5:Knows 310 A5 [(0,pV tb 0),(1,pV b 0),(2,nV i),(6,pV cb 0),(21, .bool q1),(171, .bool (decide (least o < mr)))]:=N5.knows K4 (by kernel_rfl)
         exact ⟨decide (least o < mr),by simp [hin],K5.sub (by kernel_rfl),(St_re S5 [0,4,5,1,2,3] [] (by kernel_rfl))⟩
       · skip
         refine wp_regT (obFm11z β tb b i nk ck gp np cp vs ak hin _ _ _) (by kernel_rfl) (cdFm11z β).cd (K4.sub (by kernel_rfl)) (St_re S4 [0] [1,2,3,4,5] (by kernel_rfl)) fun A6 w6 N6 H6=> ?_
         have S6:St w0 fp0 ([blkA b (tN β) #[.slice ak nk ck,vs,sV gp np cp],slA (tK β) (.slice ak nk ck) xs,slA (tV β) (vs) ys,slA (tP β) (sV gp np cp) zs,KD,blkA tb (tT β) #[r,nV o,nn]]++R) w6:=H6
         have K6:Knows 310 A6 [(0,pV tb 0),(1,pV b 0),(2,nV i),(6,pV cb 0),(21, .bool q1),(171, .bool false)]:=N6.knows K4 (by kernel_rfl)
         exact ⟨false,by simp [hin],K6.sub (by kernel_rfl),(St_re S6 [0,1,2,3,4,5] [] (by kernel_rfl))⟩
     · rintro A7 w7 ⟨q2,hq2,K7,S7⟩
       refine wp_condK (ccFm171 β) K7 (by rfl) (fun hq=> ?_) (fun hq=> ?_)
       · skip
         exact HB _ _ _ ⟨hn1,hq2.1 hq⟩ (K7.sub (by kernel_rfl)) (St_re S7 [0,1,2,3,4,5] [] (by kernel_rfl)) fun A w' hk h=> by obtain ⟨nt,fs,hk⟩:=hk;exact post_T hk (res0 (resFm β)) ⟨rfl,h⟩
       · skip
         have hn2:¬ (i < nk∧least o < mr):=fun h=> by rw [hq2.2 h] at hq;cases hq
         refine wp_seqT (cdFm19 β).sq ?_
         refine wp_regT (obFm19 β i  _ _ _) (by kernel_rfl) (cdFm19 β).cd (K7.sub (by kernel_rfl)) (St_re S7 [] [0,1,2,3,4,5] (by kernel_rfl)) fun A8 w8 N8 H8=> ?_
         have S8:St w0 fp0 ([blkA b (tN β) #[.slice ak nk ck,vs,sV gp np cp],slA (tK β) (.slice ak nk ck) xs,slA (tV β) (vs) ys,slA (tP β) (sV gp np cp) zs,KD,blkA tb (tT β) #[r,nV o,nn]]++R) w8:=H8
         have K8:Knows 310 A8 [(0,pV tb 0),(1,pV b 0),(2,nV i),(6,pV cb 0),(171, .bool q2),(302, .bool (decide (0 < i)))]:=N8.knows K7 (by kernel_rfl)
         refine wp_condK (ccFm302 β) K8 (by rfl) (fun hq=> ?_) (fun hq=> ?_)
         · skip
           have h0:0 < i:=by simpa using hq
           have Sf:St w0 fp0 ([starA [blkA b (tN β) #[.slice ak nk ck,vs,sV gp np cp],slA (tK β) (.slice ak nk ck) xs,slA (tV β) (vs) ys,slA (tP β) (sV gp np cp) zs,KD,blkA tb (tT β) #[r,nV o,nn]]]++R) w8:=St.star.2 (St_re S8 [0,1,2,3,4,5] [] (by kernel_rfl))
           refine wp_regT (obFm20 β tb b i _ (starA [TF,blkA tb (tT β) #[r, .int .i64 o,nn]]) h0 (by omega) w0 fp0 R (fun w h=> (HC h0 (fun hh=> hn1 ⟨h0,hh⟩) hn2 w (St.star.1 h)).mono fun e w' ⟨h1,h2⟩=> ⟨h1,St.star.2 h2⟩)) (by kernel_rfl) (cdFm20 β).cd (K8.sub (by kernel_rfl)) (St_re Sf [0] [] (by kernel_rfl)) fun A9 w9 N9 H9=> ?_
           have S9:St w0 fp0 ([starA [TF,blkA tb (tT β) #[r, .int .i64 o,nn]]]++R) w9:=H9
           have K9:Knows 310 A9 [(0,pV tb 0),(1,pV b 0),(2,nV i),(6,pV cb 0),(171, .bool q2),(302, .bool (decide (0 < i)))]:=N9.knows K8 (by kernel_rfl)
           refine post_T K9 (res0 (resFm β)) ?_
           exact ⟨rfl,(St.star (L1:=[TF,blkA tb (tT β) #[r, .int .i64 o,nn]]) (L2:=R)).1 S9⟩
         · skip
           have h0:i=0:=by simpa using hq
           have Sf:St w0 fp0 ([starA [blkA b (tN β) #[.slice ak nk ck,vs,sV gp np cp],slA (tK β) (.slice ak nk ck) xs,slA (tV β) (vs) ys,slA (tP β) (sV gp np cp) zs,KD,blkA tb (tT β) #[r,nV o,nn]]]++R) w8:=St.star.2 (St_re S8 [0,1,2,3,4,5] [] (by kernel_rfl))
           refine wp_regT (obFm1 β tb b i _ (starA [TF,blkA tb (tT β) #[r, .int .i64 o,nn]]) w0 fp0 R (fun w h=> (HD h0 hn2 w (St.star.1 h)).mono fun e w' ⟨h1,h2⟩=> ⟨h1,St.star.2 h2⟩)) (by kernel_rfl) (cdFm1 β).cd (K8.sub (by kernel_rfl)) (St_re Sf [0] [] (by kernel_rfl)) fun A10 w10 N10 H10=> ?_
           have S10:St w0 fp0 ([starA [TF,blkA tb (tT β) #[r, .int .i64 o,nn]]]++R) w10:=H10
           have K10:Knows 310 A10 [(0,pV tb 0),(1,pV b 0),(2,nV i),(6,pV cb 0),(171, .bool q2),(302, .bool (decide (0 < i)))]:=N10.knows K8 (by kernel_rfl)
           refine post_T K10 (res0 (resFm β)) ?_
           exact ⟨rfl,(St.star (L1:=[TF,blkA tb (tT β) #[r, .int .i64 o,nn]]) (L2:=R)).1 S10⟩
end Go.Proofs.YtpdlkdoogojboaaGreat
/- fill at trees. -/
namespace Go.Proofs.YtpdlkdoogojboaaGreat
open Go Go.RowKit
variable {β:Bool}
theorem cnt_of {x:TT} {i:Nat} {c:TT} (h:x.cs[i]? =some c):cntT x i=c.es.length:=by unfold cntT;rw [h]
theorem set_map {α γ:Type} (f:α→γ) (l:List α) (i:Nat) (a:α):(l.map f).set i (f a)=(l.set i a).map f:=by rw [List.map_set]
theorem erase_last {α:Type} {l:List α} {n:Nat} (h:l.length=n+1):l.eraseIdx n=l.dropLast:=by
 rw [List.eraseIdx_eq_take_drop_succ,List.drop_of_length_le (by omega),List.append_nil,List.dropLast_eq_take]
 congr 1
 omega
/-- The last kid of the left node goes to the right one. -/
theorem St.kid_right {w0 w:World} {fp0:List Nat} {L:List Asn} {h n pb:Nat} {lc cc:List TT} {lbs cbs:List Nat} (hl1:lbs.length=lc.length) (_hl2:cbs.length=cc.length) (hn:lc.length=n+1) (hp:lbs[n]? =some pb)
 (hs:St w0 fp0 (starA (List.zipWith (kidA β h) lc lbs)::starA (List.zipWith (kidA β h) cc cbs)::L) w):
 St w0 fp0 (starA (List.zipWith (kidA β h) lc.dropLast lbs.dropLast)::starA (List.zipWith (kidA β h) (lc.getLast?.toList++cc) (pb::cbs))::L) w:=by
 obtain ⟨A,y,rfl⟩:=snoc_of (ne_nil (l:=lc) (by omega))
 obtain ⟨A',y',rfl⟩:=snoc_of (ne_nil (l:=lbs) (by omega))
 simp only [List.length_append,List.length_cons,List.length_nil] at hl1 hn
 rw [List.getElem?_append_right (by omega),show n - A'.length=0 by omega] at hp
 simp only [List.getElem?_cons_zero,Option.some.injEq] at hp
 subst hp
 simp only [List.dropLast_concat,List.getLast?_concat,Option.toList]
 have g1:=(St.kids_app (A:=A) (A':=A') (by omega)).1 hs
 have g2:=(St.kids_app (A:=[y]) (A':=[y']) (B:=cc) (B':=cbs) rfl).2 (St_re (L:=[_,_,_]) g1 [1,2,0] [] (by kernel_rfl))
 exact St_re (L:=[_,_]) g2 [1,0] [] (by kernel_rfl)
theorem St.kid_left {w0 w:World} {fp0:List Nat} {L:List Asn} {h pb:Nat} {cc rc:List TT} {cbs rbs:List Nat} (hl1:cbs.length=cc.length) (hl2:rbs.length=rc.length) (hp:rbs[0]? =some pb)
 (hs:St w0 fp0 (starA (List.zipWith (kidA β h) cc cbs)::starA (List.zipWith (kidA β h) rc rbs)::L) w):
 St w0 fp0 (starA (List.zipWith (kidA β h) (cc++rc.take 1) (cbs++[pb]))::starA (List.zipWith (kidA β h) (rc.drop 1) (rbs.eraseIdx 0))::L) w:=by
 cases rbs with
 | nil=> simp at hp
 | cons y' A'=>
  cases rc with
  | nil=> simp at hl2
  | cons y A=>
   simp only [List.getElem?_cons_zero,Option.some.injEq] at hp
   subst hp
   have g1:=(St.kids_app (A:=[y]) (A':=[y']) (B:=A) (B':=A') rfl).1 (St_re (L:=[_,_]) hs [1,0] [] (by kernel_rfl))
   exact (St.kids_app (A:=cc) (A':=cbs) (B:=[y]) (B':=[y']) hl1).2 (St_re (L:=[_,_,_]) g1 [2,0,1] [] (by kernel_rfl))
/-- **fill**. -/
theorem fill_calls {o h i:Nat} (ho:3≤o) (ho':o≤1024) (tb:Nat) (r nn:Value) {x:TT} (b:Nat) (w0 w:World) (fp0:List Nat) (R:List Asn) (hsh:Short o h i x) (hxl:x.es.length≤o - 1) (hS:St w0 fp0 (treeA β (h+1) x b::blkA tb (tT β) #[r, .int .i64 o,nn]::R) w):
 Calls Tryz.prog (fFill β) #[ptrV tb,ptrV b, .int .i64 i] w fun e w'=> e=.returned (.tuple #[])∧St w0 fp0 (treeA β (h+1) (fillT o i x) b::blkA tb (tT β) #[r, .int .i64 o,nn]::R) w':=by
 have hx2:x.es.length≤2000∧x.cs.length≤2001:=by have:=hsh.len;omega
 obtain ⟨hl1,hl2⟩:=least_two ho
 have hkid:∀(j:Nat) (c:TT),x.cs[j]? =some c→(∃lo,Body o h lo (o - 1) c)∧c.es.length≤2000:=by
  intro j c hc
  by_cases e:j=i
  · subst e
    have:=(hsh.kid c hc).1
    exact ⟨⟨_,this⟩,by have:=this.hi;omega⟩
  · have:=hsh.rest j c e hc
    exact ⟨⟨_,this⟩,by have:=this.hi;omega⟩
 have hcs:∀(j:Nat) (c:TT) (j':Nat) (c':TT),x.cs[j]? =some c→x.cs[j']? =some c'→(c.cs=[]∧c'.cs=[])∨(c.cs.length=c.es.length+1∧c'.cs.length=c'.es.length+1):=by
  intro j c j' c' h1 h2
  obtain ⟨⟨_,b1⟩,_⟩:=hkid j c h1
  obtain ⟨⟨_,b2⟩,_⟩:=hkid j' c' h2
  rcases b1.kids with ⟨e,k⟩ | ⟨h',e,k,_⟩
  · subst e;exact .inl ⟨k,b2.2.2⟩
  · subst e;exact .inr ⟨k,b2.2.2.1⟩
 have hcl:∀(j:Nat) (c:TT),x.cs[j]? =some c→c.cs.length≤2001:=by
  intro j c h1
  have:=(hkid j c h1).2
  rcases hcs j c j c h1 h1 with ⟨k,_⟩ | ⟨k,_⟩
  · rw [k];simp
  · omega
 obtain ⟨g1,g2,g3,g4,g5⟩:=hsh
 obtain ⟨ks,vs,ps,bs,hl,hS1⟩:=St.openNT hS
 have hS2:=St_re (L:=[_,_,_,_,_,_]) hS1 [0,1,2,3,4,5] [] (by kernel_rfl)
 have hM:∀j w1,j+1 < x.cs.length→St w0 fp0 ([blkA b (tN β) #[ks,vs,ps],slA (tK β) ks (keysV x.es),slA (tV β) vs (valsV x.es),slA (tP β) ps (bs.map ptrV),starA (List.zipWith (kidA β (h+1)) x.cs bs),blkA tb (tT β) #[r, .int .i64 o,nn]]++R) w1→Calls Tryz.prog (fMerge β) #[ptrV tb,ptrV b, .int .i64 (j:Int)] w1 fun e w'=> e=.returned (.tuple #[])∧St w0 fp0 ([treeA β (h+1) (mergeT j x) b,blkA tb (tT β) #[r, .int .i64 o,nn]]++R) w':=by
  intro j w1 hj hs
  obtain ⟨l,e1⟩:∃l,x.cs[j]? =some l:=⟨_,List.getElem?_eq_getElem (by omega)⟩
  obtain ⟨c,e2⟩:∃c,x.cs[j+1]? =some c:=⟨_,List.getElem?_eq_getElem hj⟩
  obtain ⟨s,e3⟩:∃s,x.es[j]? =some s:=⟨_,List.getElem?_eq_getElem (by omega)⟩
  exact merge_calls tb hl e1 e2 e3 hx2 (hkid _ _ e1).2 (hkid _ _ e2).2 (hcl _ _ e1) (hcl _ _ e2) hs
 obtain ⟨_,q1⟩:=hS2.has 1 rfl
 obtain ⟨_,q2⟩:=hS2.has 2 rfl
 obtain ⟨_,q3⟩:=hS2.has 3 rfl
 obtain ⟨gk,ck,rfl, -⟩:=sl_some q1 (by rw [keysV_length];omega)
 obtain ⟨gv,cv,rfl, -⟩:=sl_some q2 (by rw [valsV_length];omega)
 obtain ⟨gp,cp,rfl, -⟩:=sl_some q3 (by rw [List.length_map];omega)
 obtain ⟨ci,hci⟩:∃c,x.cs[i]? =some c:=⟨_,List.getElem?_eq_getElem g3⟩
 obtain ⟨cb,ecb⟩:∃cb,bs[i]? =some cb:=⟨_,List.getElem?_eq_getElem (by omega)⟩
 obtain ⟨lb,elb⟩:∃lb,0 < i→bs[i - 1]? =some lb:=by
  by_cases hi:0 < i
  · exact ⟨bs[i - 1]'(by omega),fun _=> List.getElem?_eq_getElem (by omega:i - 1 < bs.length)⟩
  · exact ⟨0,fun hh=> absurd hh hi⟩
 obtain ⟨rb,erb⟩:∃rb,i < x.es.length→bs[i+1]? =some rb:=by
  by_cases hi:i < x.es.length
  · exact ⟨bs[i+1]'(by omega),fun _=> List.getElem?_eq_getElem (by omega:i+1 < bs.length)⟩
  · exact ⟨0,fun hh=> absurd hh hi⟩
 refine fill_flat β tb o b lb cb rb i (cntT x (i - 1)) (cntT x (i+1)) _ ck gp _ cp r nn (.slice (some ⟨gv,0,none⟩) _ cv) _ (keysV x.es) (valsV x.es) (bs.map ptrV) (starA (List.zipWith (kidA β (h+1)) x.cs bs)) (treeA β (h+1) (fillT o i x) b) ho ho' rfl (by rw [List.length_map];omega) (by rw [List.length_map];omega) (by rw [keysV_length,List.length_map];omega)
  (by rw [List.getElem?_map,ecb];rfl) (fun hh=> by rw [List.getElem?_map,elb hh];rfl) (fun hh=> by rw [List.getElem?_map,erb (by rw [keysV_length] at hh;exact hh)];rfl)
  (fun hh w f hk=> ?_) (fun hh w f hk=> ?_) w0 w fp0 R (fun Q A w1 hc K S hQ=> ?_) (fun Q A w1 hc K S hQ=> ?_) (fun hc hc1 hc2 w1 S=> ?_) (fun hc hc2 w1 S=> ?_) hS2
 · obtain ⟨l,e1⟩:∃l,x.cs[i - 1]? =some l:=⟨_,List.getElem?_eq_getElem (by omega)⟩
   rw [cnt_of e1]
   exact kid_lookT e1 (elb hh) hk
 · rw [keysV_length] at hh
   obtain ⟨l,e1⟩:∃l,x.cs[i+1]? =some l:=⟨_,List.getElem?_eq_getElem (by omega)⟩
   rw [cnt_of e1]
   exact kid_lookT e1 (erb hh) hk
 · have ef:fillT o i x=rightT (i - 1) x:=by unfold fillT;rw [if_pos hc]
   obtain ⟨hi0,hc1⟩:=hc
   obtain ⟨j,rfl⟩:∃j,i=j+1:=⟨i - 1,by omega⟩
   rw [Nat.add_sub_cancel] at ef hc1
   replace elb:=elb hi0
   rw [Nat.add_sub_cancel] at elb
   obtain ⟨l,e1⟩:∃l,x.cs[j]? =some l:=⟨_,List.getElem?_eq_getElem (by omega)⟩
   obtain ⟨s,e3⟩:∃s,x.es[j]? =some s:=⟨_,List.getElem?_eq_getElem (by omega)⟩
   rw [cnt_of e1] at hc1
   obtain ⟨last,hlast⟩:∃last,l.es.length=last+1:=⟨l.es.length - 1,by omega⟩
   obtain ⟨m,hm⟩:∃m,l.es[last]? =some m:=⟨_,List.getElem?_eq_getElem (by omega)⟩
   have hm2:l.es.getLast? =some m:=by rw [List.getLast?_eq_getElem?,hlast];exact hm
   obtain ⟨lk,lv,lp,lbs,qk,qv,qp,cbs,n1,n2,S2⟩:=St.open2 (R:=blkA tb (tT β) #[r, .int .i64 o,nn]::R) hl e1 hci elb ecb S
   obtain ⟨_,z1⟩:=S2.has 5 rfl
   obtain ⟨_,z2⟩:=S2.has 6 rfl
   obtain ⟨_,z3⟩:=S2.has 7 rfl
   obtain ⟨hk,dk,rfl, -⟩:=sl_some z1 (by rw [keysV_length];omega)
   obtain ⟨hv,dv,rfl, -⟩:=sl_some z2 (by rw [valsV_length];omega)
   obtain ⟨a2,c2,rfl, -⟩:=sl_get z3
   have hkl:=(hkid _ _ e1).2
   have hkc:=(hkid _ _ hci).2
   have hcl1:=hcl _ _ e1
   have hcl2:=hcl _ _ hci
   have S3:=S2
   rw [show (keysV l.es).length=last+1 by rw [keysV_length];exact hlast,show (valsV l.es).length=last+1 by rw [valsV_length];exact hlast] at S3
   refine fillA β tb b lb cb j gk _ ck gv _ cv gp _ cp hk dk hv dv last _ c2 qk qv qp (encK s.1) (encV s.2) (encK m.1) (encV m.2) a2 _ _ _ _ _ _ _ _ _ rfl rfl rfl (by simp [keysV,e3]) (by simp [valsV,e3]) (by rw [List.getElem?_map,elb];rfl) (by simp [keysV,hm]) (by simp [valsV,hm]) (by rw [keysV_length];exact hlast) (by rw [valsV_length];exact hlast) rfl ?_
    (by rw [keysV_length];omega) (by omega) (by rw [List.length_map];omega) (by rw [keysV_length];omega) (by rw [valsV_length];omega) (by rw [List.length_map];omega) (by rw [List.length_map];omega) (keysV_one _) (valsV_one _) (keysV_one _) (valsV_one _) (ptrV_one _) (keysV_one _) (valsV_one _) (ptrV_one _) Q A w0 w1 fp0 _ K ?_ S3
   · rcases hcs _ _ _ _ e1 hci with ⟨k,_⟩ | ⟨k,_⟩
     · exact .inl (by have:lbs=[]:=List.length_eq_zero_iff.1 (by rw [n1,k];rfl);rw [this];rfl)
     · exact .inr (by rw [List.length_map];omega)
   intro A w' hA ks' vs' ps' lk' lv' lp' ck' cv' cp' lz' cz' hz S4
   refine hQ A w' hA ?_
   have k1:(keysV x.es).set j (encK m.1)=keysV (x.es.set j m):=set_map _ _ _ _
   have k2:(valsV x.es).set j (encV m.2)=valsV (x.es.set j m):=set_map _ _ _ _
   have k3:(keysV l.es).eraseIdx last=keysV l.es.dropLast:=by rw [←erase_last hlast];exact (map_eraseIdx' _ _ _).symm
   have k4:(valsV l.es).eraseIdx last=valsV l.es.dropLast:=by rw [←erase_last hlast];exact (map_eraseIdx' _ _ _).symm
   have k5:encK s.1::keysV ci.es=keysV (s::ci.es):=rfl
   have k6:encV s.2::valsV ci.es=valsV (s::ci.es):=rfl
   rw [k1,k2,k3,k4,k5,k6] at S4
   have er:rightT j x=.node (x.es.set j m) (x.cs.take j++.node l.es.dropLast l.cs.dropLast::.node (s::ci.es) (l.cs.getLast?.toList++ci.cs)::x.cs.drop (j+2)):=by
    unfold rightT;rw [e1,hci,e3];simp only [hm2]
   rw [ef,er]
   rcases hz with ⟨z1,rfl,rfl⟩ | ⟨pz,z1,rfl,rfl⟩
   · have z2:lbs=[]:=List.map_eq_nil_iff.1 z1
     subst z2
     have z3:l.cs=[]:=List.length_eq_zero_iff.1 (by rw [←n1];rfl)
     rw [z3] at n1 S4 ⊢
     exact St.shut2 (lbs:=[]) (rbs:=cbs) hl elb ecb n1 n2 S4
   · obtain ⟨pb,z2,rfl⟩:∃pb,lbs[last+1]? =some pb∧ptrV pb=pz:=by
      rw [List.getElem?_map] at z1
      cases hh:lbs[last+1]? with
      | none=> rw [hh] at z1;cases z1
      | some pb=> rw [hh] at z1;exact ⟨pb,rfl,Option.some.inj z1⟩
     have hlz:l.cs.length=last+1+1:=by
      rcases hcs _ _ _ _ e1 hci with ⟨k,_⟩ | ⟨k,_⟩
      · have:lbs=[]:=List.length_eq_zero_iff.1 (by rw [n1,k];rfl)
        rw [this] at z2;cases z2
      · rw [k,hlast]
     have k7:(lbs.map ptrV).eraseIdx (last+1)=lbs.dropLast.map ptrV:=by rw [←erase_last (l:=lbs) (n:=last+1) (by omega)];exact (map_eraseIdx' _ _ _).symm
     have k8:ptrV pb::cbs.map ptrV=(pb::cbs).map ptrV:=rfl
     rw [k7,k8] at S4
     have S5:=St.kid_right n1 n2 hlz z2 (St_re (L:=[_,_,_,_,_,_,_,_,_,_,_,_,_,_,_,_]) S4 [12,13,0,1,2,3,4,5,6,7,8,9,10,11,14,15] [] (by kernel_rfl))
     obtain ⟨y,hy⟩:∃y,l.cs.getLast? =some y:=⟨_,List.getLast?_eq_some_getLast (ne_nil (by omega))⟩
     exact St.shut2 (lbs:=lbs.dropLast) (rbs:=pb::cbs) hl elb ecb (by rw [List.length_dropLast,List.length_dropLast,n1]) (by rw [hy];simp [n2]) (St_re (L:=[_,_,_,_,_,_,_,_,_,_,_,_,_,_,_,_]) S5 [2,3,4,5,6,7,8,9,10,11,12,13,0,1,14,15] [] (by kernel_rfl))
 · rw [keysV_length] at hc
   have ef:fillT o i x=leftT i x:=by unfold fillT;rw [if_neg hc.1,if_pos hc.2]
   obtain ⟨-,hi0,hc1⟩:=hc
   replace erb:=erb hi0
   obtain ⟨rr,e2⟩:∃l,x.cs[i+1]? =some l:=⟨_,List.getElem?_eq_getElem (by omega)⟩
   obtain ⟨s,e3⟩:∃s,x.es[i]? =some s:=⟨_,List.getElem?_eq_getElem hi0⟩
   rw [cnt_of e2] at hc1
   obtain ⟨m,E,hm⟩:∃m E,rr.es=m::E:=by
    cases hh:rr.es with
    | nil=> rw [hh] at hc1;simp at hc1
    | cons a b=> exact ⟨a,b,rfl⟩
   obtain ⟨qk,qv,qp,cbs,rk,rv,rp,rbs,n1,n2,S2⟩:=St.open2 (R:=blkA tb (tT β) #[r, .int .i64 o,nn]::R) hl hci e2 ecb erb S
   obtain ⟨_,z1⟩:=S2.has 9 rfl
   obtain ⟨_,z2⟩:=S2.has 10 rfl
   obtain ⟨_,z3⟩:=S2.has 11 rfl
   obtain ⟨hk,dk,rfl, -⟩:=sl_some z1 (by rw [keysV_length];omega)
   obtain ⟨hv,dv,rfl, -⟩:=sl_some z2 (by rw [valsV_length];omega)
   obtain ⟨a2,c2,rfl, -⟩:=sl_get z3
   have hkr:=(hkid _ _ e2).2
   have hkc:=(hkid _ _ hci).2
   have hcl1:=hcl _ _ e2
   have hcl2:=hcl _ _ hci
   have S3:=St_re S2 [0,1,2,3,8,9,10,11,4,5,6,7] [] (by kernel_rfl)
   refine fillB β tb b rb cb i gk _ ck gv _ cv gp _ cp hk _ dk hv _ dv _ c2 qk qv qp (encK s.1) (encV s.2) (encK m.1) (encV m.2) a2 _ _ _ _ _ _ _ _ _ rfl rfl rfl (by simp [keysV,e3]) (by simp [valsV,e3]) (by rw [List.getElem?_map,erb];rfl) (by simp [keysV,hm]) (by simp [valsV,hm]) rfl rfl rfl
    (by rw [keysV_length];omega) (by rw [keysV_length];omega) (by rw [valsV_length];omega) (by rw [List.length_map];omega) (by rw [keysV_length];omega) (by rw [valsV_length];omega) (by rw [List.length_map];omega) (by rw [List.length_map];omega) (keysV_one _) (valsV_one _) (keysV_one _) (valsV_one _) (ptrV_one _) (keysV_one _) (valsV_one _) (ptrV_one _) Q A w0 w1 fp0 _ K ?_ S3
   intro A w' hA ks' vs' ps' rk' rv' rp' ck' cv' cp' rz' cz' hz S4
   refine hQ A w' hA ?_
   have k1:(keysV x.es).set i (encK m.1)=keysV (x.es.set i m):=set_map _ _ _ _
   have k2:(valsV x.es).set i (encV m.2)=valsV (x.es.set i m):=set_map _ _ _ _
   have k3:(keysV rr.es).eraseIdx 0=keysV E:=by rw [hm];rfl
   have k4:(valsV rr.es).eraseIdx 0=valsV E:=by rw [hm];rfl
   have k5:keysV ci.es++[encK s.1]=keysV (ci.es++[s]):=by simp [keysV]
   have k6:valsV ci.es++[encV s.2]=valsV (ci.es++[s]):=by simp [valsV]
   rw [k1,k2,k3,k4,k5,k6] at S4
   have er:leftT i x=.node (x.es.set i m) (x.cs.take i++.node (ci.es++[s]) (ci.cs++rr.cs.take 1)::.node E (rr.cs.drop 1)::x.cs.drop (i+2)):=by
    unfold leftT;rw [hci,e2,e3];simp only [hm]
   rw [ef,er]
   rcases hz with ⟨z1,rfl,rfl⟩ | ⟨pz,z1,rfl,rfl⟩
   · have z2:rbs=[]:=List.map_eq_nil_iff.1 z1
     subst z2
     have z3:rr.cs=[]:=List.length_eq_zero_iff.1 (by rw [←n2];rfl)
     rw [z3] at n2 S4 ⊢
     rw [show ci.cs++List.take 1 ([]:List TT)=ci.cs by simp]
     exact St.shut2 (lbs:=cbs) (rbs:=[]) hl ecb erb n1 n2 (St_re (L:=[_,_,_,_,_,_,_,_,_,_,_,_,_,_,_,_]) S4 [0,1,2,3,8,9,10,11,4,5,6,7,12,13,14,15] [] (by kernel_rfl))
   · obtain ⟨pb,z2,rfl⟩:∃pb,rbs[0]? =some pb∧ptrV pb=pz:=by
      rw [List.getElem?_map] at z1
      cases hh:rbs[0]? with
      | none=> rw [hh] at z1;cases z1
      | some pb=> rw [hh] at z1;exact ⟨pb,rfl,Option.some.inj z1⟩
     have k7:(rbs.map ptrV).eraseIdx 0=(rbs.eraseIdx 0).map ptrV:=(map_eraseIdx' _ _ _).symm
     have k8:cbs.map ptrV++[ptrV pb]=(cbs++[pb]).map ptrV:=by simp
     rw [k7,k8] at S4
     have hr0:0 < rr.cs.length:=by rw [←n2];exact (List.getElem?_eq_some_iff.1 z2).1
     have S5:=St.kid_left n1 n2 z2 (St_re (L:=[_,_,_,_,_,_,_,_,_,_,_,_,_,_,_,_]) S4 [12,13,0,1,2,3,4,5,6,7,8,9,10,11,14,15] [] (by kernel_rfl))
     exact St.shut2 (lbs:=cbs++[pb]) (rbs:=rbs.eraseIdx 0) hl ecb erb (by rw [List.length_append,List.length_append,List.length_take,n1];simp;omega) (by rw [List.length_eraseIdx_of_lt (by omega),List.length_drop,n2]) (St_re (L:=[_,_,_,_,_,_,_,_,_,_,_,_,_,_,_,_]) S5 [2,3,4,5,10,11,12,13,6,7,8,9,0,1,14,15] [] (by kernel_rfl))
 · rw [keysV_length] at hc2
   rw [show fillT o i x=mergeT (i - 1) x by unfold fillT;rw [if_neg (fun hh=> hc1 hh.2),if_neg hc2,if_pos hc]]
   exact hM (i - 1) w1 (by omega) S
 · rw [keysV_length] at hc2
   rw [show fillT o i x=mergeT i x by unfold fillT;rw [if_neg (fun hh=> by omega),if_neg hc2,if_neg (by omega)]]
   exact hM i w1 (by omega) S
end Go.Proofs.YtpdlkdoogojboaaGreat
/- max, over both trees. -/
namespace Go.Proofs.YtpdlkdoogojboaaGreat
open Go Go.RowKit
set_option maxRecDepth 100000
def ky0:Bool→Ky
 | false=> .int 0
 | true=> .str ⟨#[]⟩
def isExit0:Code→Bool
 | .exit i=> i==0
 | _=> false
theorem wp_exitT {P:Program} {Q:Exit→Act→World→Prop} {a:Act} {w:World} {c:Code} (hc:isExit0 c=true) (h:Q (.exit 0) a w):c.wp P Q a w:=by
 cases c with
 | exit j => obtain rfl:j=0:=by simpa [isExit0] using hc
             exact wp_exit h
 | _=> cases hc
theorem sqMx0 (β:Bool):Sq (BMax β) [1,0,4,4]:=by cases β <;> exact isQ (by kernel_rfl)
noncomputable def gMx1 (β:Bool) (b n2 c2:Nat) (ks vs:Value) (a2:Option Addr):=rg Tryz.prog (BMax β) 1 43 [(4,3)] [(0,pV b 0)] (Vq 0 4 [Kp b 0,Kv (.bool (n2==0)),Kv (.bool (!(n2==0)))]) [Bk b (tN β) [ks,vs, .slice a2 n2 c2]]
theorem obMx1 (β:Bool) (b n2 c2:Nat) (ks vs:Value) (a2:Option Addr)  (w0:World) (fp0:List Nat) (R:List Asn):(gMx1 β b n2 c2 ks vs a2 w0 fp0 R).Ok 3:=by
 cases β <;> exact Rg.ok _ 3 [1] ⟨.ask1 _ 1 0 (fun w fp h=> (leaf_calls b _ _ a2 n2 c2 w h).mono fun e w' ⟨h1,h2⟩=> ⟨h1,h2 ▸ Below.refl _ _⟩),trivial⟩
theorem cdMx1 (β:Bool):IsSq (BMax β) [1,0,4,4,0] 1:=by cases β <;> exact isq (by kernel_rfl)
theorem ccMx6 (β:Bool):isCond (csnd (cfst (cbody (cbody (cfst (csnd (bodyC (BMax β))))))))=true∧ccond (csnd (cfst (cbody (cbody (cfst (csnd (bodyC (BMax β))))))))=.tmp 6:=by cases β <;> exact ⟨kr (by kernel_rfl),kr (by kernel_rfl)⟩
theorem isSkipMx1 (β:Bool):isSkip (cthen (csnd (cfst (cbody (cbody (cfst (csnd (bodyC (BMax β)))))))))=true:=by cases β <;> exact kr (by kernel_rfl)
theorem isBlkMx2 (β:Bool):isBlk (csnd (cbody (cbody (cfst (csnd (bodyC (BMax β)))))))=true:=by cases β <;> exact kr (by kernel_rfl)
noncomputable def gMx2 (β:Bool) (b gp last c2 cb:Nat) (ks vs:Value) (zs:List Value):=rgq Tryz.prog (BMax β) 2 43 [(7,12),(0,1)] [] [(0,pV b 0,12)] (Vq 0 7 [Kp b 0,Kp b 0,Kp b 2,Ks gp (last+1) c2,Kp b 0,Kp b 0,Kp b 2,Ks gp (last+1) c2,Kn (last+1),Kn last,Kp gp last,Kp cb 0]++Vq 12 0 [Kp cb 0]) [Bk b (tN β) [ks,vs,sV gp (last+1) c2], .sl (tP β) (sV gp (last+1) c2) zs []]
theorem obMx2 (β:Bool) (b gp last c2 cb:Nat) (ks vs:Value) (zs:List Value) (hl:last+1 < 1099511627776) (hzi:zs[last]? =some (ptrV cb)) (w0:World) (fp0:List Nat) (R:List Asn):(gMx2 β b gp last c2 cb ks vs zs w0 fp0 R).Ok 13:=by
 cases β <;> exact Rg.ok _ 13 [3,7,9,10,11] ⟨.load _ 3 0 2, .load _ 7 0 2, .sub _ 9 ((last+1)) (1) ((last:Nat):Int), .index _ 10 gp (last+1) c2 last (by omega), .elem _ 11 1 last hzi,trivial⟩
theorem cdMx2 (β:Bool):IsRg (BMax β) [1,0,4,4,1,4] 2:=by cases β <;> exact irg (by kernel_rfl)
theorem isExit0Mx3 (β:Bool):isExit0 (celse (csnd (cfst (cbody (cbody (cfst (csnd (bodyC (BMax β)))))))))=true:=by cases β <;> exact kr (by kernel_rfl)
theorem max_round (β:Bool) (b n2 c2 cb:Nat) (ks vs:Value) (a2:Option Addr) (zs:List Value) (hn2:n2=zs.length) (hlz:zs.length < 1099511627776) (hz:n2≠0→zs[n2 - 1]? =some (ptrV cb)) (w0 w:World) (fp0:List Nat) (R:List Asn) (A0:Act) (Q:Exit→Act→World→Prop)
 (hL:n2=0→∀A w',Knows 43 A [(0, .pointer (some ⟨b,0,none⟩))]→St w0 fp0 ([blkA b (tN β) #[ks,vs, .slice a2 n2 c2],slA (tP β) (.slice a2 n2 c2) zs]++R) w'→Q (.exit 0) A w')
 (hI:n2≠0→∀A w',Knows 43 A [(0, .pointer (some ⟨cb,0,none⟩))]→St w0 fp0 ([blkA b (tN β) #[ks,vs, .slice a2 n2 c2],slA (tP β) (.slice a2 n2 c2) zs]++R) w'→Q .normal A w')
 (K0:Knows 43 A0 [(0, .pointer (some ⟨b,0,none⟩))]) (hS:St w0 fp0 ([blkA b (tN β) #[ks,vs, .slice a2 n2 c2],slA (tP β) (.slice a2 n2 c2) zs]++R) w):(cbody (cbody (cfst (csnd (bodyC (BMax β)))))).wp Tryz.prog Q A0 w:=by
 refine wp_seqT (sqMx0 β) ?_
 refine wp_seqT (cdMx1 β).sq ?_
 refine wp_regT (obMx1 β b n2 c2 ks vs a2  _ _ _) (by kernel_rfl) (cdMx1 β).cd (K0.sub (by kernel_rfl)) (St_re hS [0] [1] (by kernel_rfl)) fun A1 w1 N1 H1=> ?_
 have S1:St w0 fp0 ([blkA b (tN β) #[ks,vs, .slice a2 n2 c2],slA (tP β) (.slice a2 n2 c2) zs]++R) w1:=H1
 have K1:Knows 43 A1 [(0,pV b 0),(6, .bool (!(n2==0)))]:=N1.knows K0 (by kernel_rfl)
 refine wp_condK (ccMx6 β) K1 (by rfl) (fun hq=> ?_) (fun hq=> ?_)
 · skip
   refine wp_skipT (isSkipMx1 β) ?_
   have hn0:n2≠0:=by simpa using hq
   have hzi:=hz hn0
   obtain ⟨_,q5⟩:=St.has S1 1 rfl
   obtain ⟨gp,cp,ep,hpc, -⟩:=sl_some q5 (by omega)
   obtain ⟨rfl, -,rfl⟩:=Value.slice.inj ep
   obtain ⟨last,rfl⟩:∃last,n2=last+1:=⟨n2 - 1,by omega⟩
   rw [Nat.add_sub_cancel] at hzi
   show (csnd (cbody (cbody (cfst (csnd (bodyC (BMax β))))))).wp Tryz.prog Q A1 w1
   refine wp_blkT (isBlkMx2 β) ?_
   refine wp_regT (obMx2 β b gp last c2 cb ks vs zs (by omega) hzi _ _ _) (by kernel_rfl) (cdMx2 β).cd (K1.sub (by kernel_rfl)) (St_re S1 [0,1] [] (by kernel_rfl)) fun A2 w2 N2 H2=> ?_
   have S2:St w0 fp0 ([blkA b (tN β) #[ks,vs,sV gp (last+1) c2],slA (tP β) (sV gp (last+1) c2) zs]++R) w2:=H2
   have K2:Knows 43 A2 [(0,pV cb 0)]:=N2.knows K1 (by kernel_rfl)
   exact hI hn0 _ _ (K2.sub (by kernel_rfl)) S2
 · skip
   have hn0:n2=0:=by simpa using hq
   refine wp_exitT (isExit0Mx3 β) ?_
   exact hL hn0 _ _ (K1.sub (by kernel_rfl)) S1
theorem entMy (β:Bool):Tryz.prog.funcs[fMax β]? =some (BMax β)∧(BMax β).body=some (bodyC (BMax β))∧(BMax β).ntmps=43:=by cases β <;> exact ⟨kr (by kernel_rfl),kr (by kernel_rfl),kr (by kernel_rfl)⟩
noncomputable def gMy0 (β:Bool)  :=rg Tryz.prog (BMax β) 0 43 [(2,2)] [] (Vq 0 2 [Kv (encK (ky0 β)),Kv (encV (va0 β))]) []
theorem obMy0 (β:Bool)   (w0:World) (fp0:List Nat) (R:List Asn):(gMy0 β  w0 fp0 R).Ok 2:=by
 cases β <;> exact Rg.ok _ 2 [] trivial
theorem cdMy0 (β:Bool):IsSq (BMax β) [] 0:=by cases β <;> exact isq (by kernel_rfl)
theorem sqMy0 (β:Bool):Sq (BMax β) [1]:=by cases β <;> exact isQ (by kernel_rfl)
noncomputable def gMy3 (β:Bool) (lb last gk ck gv cv:Nat) (ps ky vy:Value) (xs ys:List Value):=rg Tryz.prog (BMax β) 3 43 [(19,24),(2,2)] [(0,pV lb 0)] (Vq 0 19 [Kp lb 0,Kp lb 0,Kp lb 0,Ks gk (last+1) ck,Kp lb 0,Kp lb 0,Kp lb 0,Ks gk (last+1) ck,Kn (last+1),Kn last,Kp gk last,Kv ky,Kp lb 0,Kp lb 0,Kp lb 1,Ks gv (last+1) cv,Kp lb 0,Kp lb 0,Kp lb 1,Ks gv (last+1) cv,Kn (last+1),Kn last,Kp gv last,Kv vy]++Vq 24 2 [Kv ky,Kv vy]) [Bk lb (tN β) [sV gk (last+1) ck,sV gv (last+1) cv,ps], .sl (tK β) (sV gk (last+1) ck) xs [], .sl (tV β) (sV gv (last+1) cv) ys []]
theorem obMy3 (β:Bool) (lb last gk ck gv cv:Nat) (ps ky vy:Value) (xs ys:List Value) (hl:last+1 < 1099511627776) (hkx:xs[last]? =some ky) (hvy:ys[last]? =some vy) (w0:World) (fp0:List Nat) (R:List Asn):(gMy3 β lb last gk ck gv cv ps ky vy xs ys w0 fp0 R).Ok 26:=by
 cases β <;> exact Rg.ok _ 26 [3,7,9,10,11,15,19,21,22,23] ⟨.load _ 3 0 0, .load _ 7 0 0, .sub _ 9 ((last+1)) (1) ((last:Nat):Int), .index _ 10 gk (last+1) ck last (by omega), .elem _ 11 1 last hkx, .load _ 15 0 1, .load _ 19 0 1, .sub _ 21 ((last+1)) (1) ((last:Nat):Int), .index _ 22 gv (last+1) cv last (by omega), .elem _ 23 2 last hvy,trivial⟩
theorem cdMy3 (β:Bool):IsSq (BMax β) [1,1] 3:=by cases β <;> exact isq (by kernel_rfl)
theorem isRetMy1 (β:Bool):isRet (csnd (csnd (csnd (bodyC (BMax β)))))=true:=by cases β <;> exact kr (by kernel_rfl)
theorem resMy (β:Bool):(BMax β).results=#[.tmp 2, .tmp 3]:=by cases β <;> exact kr (by kernel_rfl)
theorem max_flat (β:Bool) (nb:Nat) (T0:Asn) (w0 w:World) (fp0:List Nat) (R:List Asn) (Rr:Ending→World→Prop)
 (HL:∀(Q:Exit→Act→World→Prop) (A:Act) (w:World),Knows 43 A [(0, .pointer (some ⟨nb,0,none⟩))]→St w0 fp0 ([T0]++R) w→
  (∀(A:Act) (w:World) (lb last gk ck gv cv:Nat) (ps ky vy:Value) (xs ys:List Value) (R':List Asn),last+1 < 1099511627776→xs[last]? =some ky→ys[last]? =some vy→xs.length=last+1→ys.length=last+1→(∀w',St w0 fp0 ([blkA lb (tN β) #[sV gk (last+1) ck,sV gv (last+1) cv,ps],slA (tK β) (sV gk (last+1) ck) xs,slA (tV β) (sV gv (last+1) cv) ys]++R') w'→Rr (.returned (.tuple #[ky,vy])) w')→Knows 43 A [(0, .pointer (some ⟨lb,0,none⟩))]→St w0 fp0 ([blkA lb (tN β) #[sV gk (last+1) ck,sV gv (last+1) cv,ps],slA (tK β) (sV gk (last+1) ck) xs,slA (tV β) (sV gv (last+1) cv) ys]++R') w→Q .normal A w)→(cfst (csnd (bodyC (BMax β)))).wp Tryz.prog Q A w)
 (hS:St w0 fp0 ([T0]++R) w):Calls Tryz.prog (fMax β) #[ptrV nb] w Rr:=by
 refine calls_T [(0,pV nb 0)] (entMy β) (by simp) (by kernel_rfl) fun A0 K0=> ?_
 refine wp_seqT (cdMy0 β).sq ?_
 refine wp_regT (obMy0 β   _ _ _) (by kernel_rfl) (cdMy0 β).cd (K0.sub (by kernel_rfl)) (St_re hS [] [0] (by kernel_rfl)) fun A1 w1 N1 H1=> ?_
 have S1:St w0 fp0 ([T0]++R) w1:=H1
 have K1:Knows 43 A1 [(0,pV nb 0),(2,encK (ky0 β)),(3,encV (va0 β))]:=N1.knows K0 (by kernel_rfl)
 refine wp_seqT (sqMy0 β) ?_
 refine HL _ _ _ (K1.sub (by kernel_rfl)) S1 fun A2 w2 lb last gk ck gv cv ps ky vy xs ys R' hl hkx hvy hxl hyl hret K2 S2=> ?_
 show (csnd (csnd (bodyC (BMax β)))).wp Tryz.prog (bodyPost Tryz.prog (BMax β) _) A2 w2
 refine wp_seqT (cdMy3 β).sq ?_
 refine wp_regT (obMy3 β lb last gk ck gv cv ps ky vy xs ys hl hkx hvy _ _ _) (by kernel_rfl) (cdMy3 β).cd (K2.sub (by kernel_rfl)) (St_re S2 [0,1,2] [] (by kernel_rfl)) fun A3 w3 N3 H3=> ?_
 have S3:St w0 fp0 ([blkA lb (tN β) #[sV gk (last+1) ck,sV gv (last+1) cv,ps],slA (tK β) (sV gk (last+1) ck) xs,slA (tV β) (sV gv (last+1) cv) ys]++R') w3:=H3
 have K3:Knows 43 A3 [(0,pV lb 0),(2,ky),(3,vy)]:=N3.knows K2 (by kernel_rfl)
 refine wp_retT (isRetMy1 β) ?_
 refine post_T K3 (res2 (resMy β) K3 (by rfl) (by rfl)) ?_
 exact hret _ S3
end Go.Proofs.YtpdlkdoogojboaaGreat
/- max at trees. -/
namespace Go.Proofs.YtpdlkdoogojboaaGreat
open Go Go.RowKit
variable {β:Bool}
def isLoop:Code→Bool
 | .loop _=> true
 | _=> false
theorem wp_loopT {P:Program} {Q:Exit→Act→World→Prop} {a:Act} {w:World} {c:Code} (n:Nat) (hc:isLoop c=true) (h:Code.rounds P (cbody c) Q n a w):c.wp P Q a w:=by
 cases c with
 | loop c=> exact wp_loop_rounds n h
 | _=> cases hc
theorem inBlock_exit {Q:Exit→Act→World→Prop} {a:Act} {w:World} {i j:Nat} (h:i=j) (hq:Q .normal a w):Exit.inBlock i Q (.exit j) a w:=by
 subst h
 simp only [Exit.inBlock,if_true]
 exact hq
theorem max_loop {o:Nat} (ho:3≤o) (ho':o≤1024):∀(h lo:Nat) (x:TT) (nb:Nat) (w0 w:World) (fp0:List Nat) (R:List Asn) (A:Act) (Q:Exit→Act→World→Prop),Body o h lo (o - 1) x→0 < x.es.length→Knows 43 A [(0, .pointer (some ⟨nb,0,none⟩))]→St w0 fp0 (treeA β h x nb::R) w→
 (∀(A:Act) (w:World) (lb last gk ck gv cv:Nat) (ps:Value) (m:Ky×Va) (xs ys:List Value) (R':List Asn),last+1 < 1099511627776→maxT h x=some m→xs[last]? =some (encK m.1)→ys[last]? =some (encV m.2)→xs.length=last+1→ys.length=last+1→(∀w',St w0 fp0 ([blkA lb (tN β) #[.slice (some ⟨gk,0,none⟩) (last+1) ck, .slice (some ⟨gv,0,none⟩) (last+1) cv,ps],slA (tK β) (.slice (some ⟨gk,0,none⟩) (last+1) ck) xs,slA (tV β) (.slice (some ⟨gv,0,none⟩) (last+1) cv) ys]++R') w'→St w0 fp0 (treeA β h x nb::R) w')→Knows 43 A [(0, .pointer (some ⟨lb,0,none⟩))]→
  St w0 fp0 ([blkA lb (tN β) #[.slice (some ⟨gk,0,none⟩) (last+1) ck, .slice (some ⟨gv,0,none⟩) (last+1) cv,ps],slA (tK β) (.slice (some ⟨gk,0,none⟩) (last+1) ck) xs,slA (tV β) (.slice (some ⟨gv,0,none⟩) (last+1) cv) ys]++R') w→Q (.exit 0) A w)→
 Code.rounds Tryz.prog (cbody (cbody (cfst (csnd (bodyC (BMax β)))))) Q (h+1) A w
 | 0,lo,x,nb,w0,w,fp0,R,A,Q,hb,hp,K,hS,hQ=> by
  rw [rounds_succ]
  obtain ⟨ks,vs,ps,bs,hl,h1⟩:=hS.openNT
  have hcs:x.cs=[]:=hb.2.2
  have hbs:bs=[]:=List.length_eq_zero_iff.1 (by rw [hl,hcs];rfl)
  subst hbs
  obtain ⟨_,q1⟩:=h1.has 1 rfl
  obtain ⟨_,q2⟩:=h1.has 2 rfl
  obtain ⟨_,q3⟩:=h1.has 3 rfl
  obtain ⟨gk,ck,rfl, -⟩:=sl_some q1 (by rw [keysV_length];omega)
  obtain ⟨gv,cv,rfl, -⟩:=sl_some q2 (by rw [valsV_length];omega)
  obtain ⟨pa,pc,rfl,_⟩:=sl_get q3
  obtain ⟨last,hlast⟩:∃last,x.es.length=last+1:=⟨x.es.length - 1,by omega⟩
  have e1:(keysV x.es).length=last+1:=by rw [keysV_length];exact hlast
  have e2:(valsV x.es).length=last+1:=by rw [valsV_length];exact hlast
  rw [e1,e2] at h1
  have hhi:=hb.hi
  refine max_round β nb _ pc 0 _ _ pa (([]:List Nat).map ptrV) rfl (by simp) (fun hh=> absurd rfl hh) w0 w fp0 _ A _ (fun _ A w' K' h2=> ?_) (fun hh=> absurd rfl hh) K (St_re (L:=[_,_,_,_,_]) h1 [0,3] [1,2,4] (by kernel_rfl))
  obtain ⟨m,hm⟩:∃m,x.es[last]? =some m:=⟨_,List.getElem?_eq_getElem (by omega)⟩
  refine hQ A w' nb last gk ck gv cv (.slice pa 0 pc) m (keysV x.es) (valsV x.es) (slA (tP β) (.slice pa 0 pc) []::starA (List.zipWith (kidA β 0) x.cs [])::R) (by omega) (by rw [maxT,List.getLast?_eq_getElem?,hlast];exact hm) (by simp [keysV,hm]) (by simp [valsV,hm]) e1 e2 (fun w'' h3=> ?_) K' (St_re (L:=[_,_,_,_,_]) h2 [0,2,3,1,4] [] (by kernel_rfl))
  have h4:=St.shutNT (es:=x.es) (cs:=x.cs) (bs:=[]) (ps:=.slice pa 0 pc) hl h3
  rw [T.eta] at h4
  exact h4
 | h+1,lo,x,nb,w0,w,fp0,R,A,Q,hb,hp,K,hS,hQ=> by
  rw [rounds_succ]
  obtain ⟨b1,b2,b3,b4⟩:=hb
  obtain ⟨c,hc⟩:∃c,x.cs[x.es.length]? =some c:=⟨_,List.getElem?_eq_getElem (by omega)⟩
  have hcb:=b4 c (List.mem_of_getElem? hc)
  obtain ⟨lo1,_⟩:=least_two ho
  obtain ⟨ks,vs,ps,bs,cb,hl,hbi,h1⟩:=hS.viewT _ hc
  obtain ⟨_,q3⟩:=h1.has 3 rfl
  obtain ⟨pa,pc,rfl,_⟩:=sl_get q3
  have hbl:bs.length=x.es.length+1:=by omega
  rw [List.length_map] at h1
  refine max_round β nb _ pc cb _ _ pa (bs.map ptrV) (by rw [List.length_map]) (by rw [List.length_map];omega) (fun _=> by rw [hbl,Nat.add_sub_cancel,List.getElem?_map,hbi];rfl) w0 w fp0 _ A _ (fun hh=> absurd hh (by omega)) (fun _ A w' K' h2=> ?_) K (St_re (L:=[_,_,_,_,_,_]) h1 [0,3] [1,2,4,5] (by kernel_rfl))
  have hml:maxT (h+1) x=maxT h c:=by rw [maxT,List.getLast?_eq_getElem?,show x.cs.length - 1=x.es.length by omega,hc]
  refine max_loop ho ho' h (least o) c cb w0 w' fp0 _ A Q hcb (by have:=hcb.lo;omega) K' (St_re (L:=[_,_,_,_,_,_]) h2 [5,0,2,3,1,4] [] (by kernel_rfl)) fun A w' lb last gk ck gv cv ps m xs ys R' g1 g2 g3 g4 g5 g6 g7 g8 g9=> ?_
  refine hQ A w' lb last gk ck gv cv ps m xs ys R' g1 (by rw [hml];exact g2) g3 g4 g5 g6 (fun w'' h3=> ?_) g8 g9
  have h5:=St.unviewT (es:=x.es) (cs:=x.cs) hl hbi (St_re (L:=[_,_,_,_,_,_]) (g7 w'' h3) [1,2,3,4,5,0] [] (by kernel_rfl))
  rw [set_self hc,T.eta] at h5
  exact h5
theorem lpMx (β:Bool):isBlk (cfst (csnd (bodyC (BMax β))))=true∧blkId (cfst (csnd (bodyC (BMax β))))=0∧isLoop (cbody (cfst (csnd (bodyC (BMax β)))))=true:=by cases β <;> exact ⟨kr (by kernel_rfl),kr (by kernel_rfl),kr (by kernel_rfl)⟩
/-- **max**: the last entry. -/
theorem max_calls {o h lo:Nat} (ho:3≤o) (ho':o≤1024) (x:TT) (nb:Nat) (w0 w:World) (fp0:List Nat) (R:List Asn) (hb:Body o h lo (o - 1) x) (hp:0 < x.es.length) (hS:St w0 fp0 (treeA β h x nb::R) w):
 Calls Tryz.prog (fMax β) #[ptrV nb] w fun e w'=> (∃m,maxT h x=some m∧e=.returned (.tuple #[encK m.1,encV m.2]))∧St w0 fp0 (treeA β h x nb::R) w':=by
 obtain ⟨p1,p2,p3⟩:=lpMx β
 refine max_flat β nb (treeA β h x nb) w0 w fp0 R _ (fun Q A w K S hQ=> ?_) hS
 refine wp_blkT p1 (wp_loopT (h+1) p3 (max_loop ho ho' h lo x nb w0 w fp0 R A _ hb hp K S fun A w' lb last gk ck gv cv ps m xs ys R' g1 g2 g3 g4 g5 g6 g7 g8 g9=> inBlock_exit p2 ?_))
 exact hQ A w' lb last gk ck gv cv ps _ _ xs ys R' g1 g3 g4 g5 g6 (fun w'' h3=> ⟨⟨m,g2,rfl⟩,g7 w'' h3⟩) g8 g9
end Go.Proofs.YtpdlkdoogojboaaGreat
/- remove at trees. -/
namespace Go.Proofs.YtpdlkdoogojboaaGreat
open Go Go.RowKit
variable {β:Bool}
theorem remove_calls {o:Nat} (ho:3≤o) (ho':o≤1024) (tb:Nat) (r nn:Value):∀(h lo:Nat) (x:TT) (nb:Nat) (k:Ky) (w0 w:World) (fp0:List Nat) (R:List Asn),k.ok β→Body o h lo (o - 1) x→(h≠0→0 < x.es.length)→AscM (toL h x)→OkL β (toL h x)→
 St w0 fp0 (treeA β h x nb::blkA tb (tT β) #[r, .int .i64 o,nn]::R) w→
 Calls Tryz.prog (fRemove β) #[ptrV tb,ptrV nb,encK k] w fun e w'=> e=.returned (.tuple #[encV ((getT h x k).getD (va0 β)), .bool (getT h x k).isSome])∧St w0 fp0 (treeA β h (removeT o h x k) nb::blkA tb (tT β) #[r, .int .i64 o,nn]::R) w'
 | h,lo,x,nb,k,w0,w,fp0,R,hkk,hb,hp,ha,hok,hS=> by
  have hlen:x.es.length < 1099511627776:=by have:=hb.hi;omega
  have hae:AscM x.es:=asc_es ha
  have hpk:=posK_le x.es k
  obtain ⟨y,hy⟩:∃y:Ky×Va,hasK x.es k=true→x.es[posK x.es k]? =some y:=by
   cases hh:hasK x.es k with
   | true=> obtain ⟨y,hy⟩:=pos_get hh;exact ⟨y,fun _=> hy⟩
   | false=> exact ⟨(k, .int 0),fun h=> nomatch h⟩
  have hyv:hasK x.es k=true→(keysV x.es)[posK x.es k]?.isSome=true∧(valsV x.es)[posK x.es k]? =some (encV y.2):=fun hq=> by simp [keysV,valsV,hy hq]
  have hg:hasK x.es k=true→getT h x k=some y.2:=fun hq=> by cases h <;> simp [getT,hq,hy hq]
  cases h with
  | zero=>
   obtain ⟨ks,vs,ps,bs,hl,h1⟩:=hS.openNT
   have hcs:x.cs=[]:=hb.2.2
   have hbs:bs=[]:=List.length_eq_zero_iff.1 (by rw [hl,hcs];rfl)
   subst hbs
   obtain ⟨_,q⟩:=h1.has 3 rfl
   obtain ⟨pa,pc,rfl,_⟩:=sl_get q
   have h2:=St_re (L:=[_,_,_,_,_,_,_]) (St.emp.2 h1) [6,1,2,3,4,5,0] [] (by kernel_rfl)
   refine remove_flat β tb o nb (posK x.es k) 0 pc 0 0 r nn ks vs (encK k) (encV y.2) (encK k) (encV (va0 β)) (encV (va0 β)) (encV (va0 β)) (encV (va0 β)) (hasK x.es k) false false false pa (keysV x.es) (valsV x.es) [] [] [] _ emp emp emp ho ho' (by rw [keysV_length];exact hpk) (by rw [keysV_length,valsV_length]) (by rw [keysV_length];exact hlen) (keysV_one _) (valsV_one _) (encK_one k) (encV_one _) rfl
    (fun w fp fp' hbk hkk'=> find_calls nb ks vs _ x.es k hok.es hkk w hbk ⟨_,hkk'⟩ hae hlen) hyv (fun h=> absurd rfl h) (fun _ h=> absurd rfl h) (fun _ h=> absurd rfl h) (fun _ h=> absurd rfl h) (fun h=> absurd rfl h) (fun _ h=> absurd rfl h) (fun _ h=> absurd rfl h) (fun _ h=> absurd rfl h) (fun _ h=> absurd rfl h) (fun _ h=> absurd rfl h) (fun _ h=> absurd rfl h) (fun h=> absurd rfl h) _ w0 w fp0 R ?_ ?_ (fun h=> absurd rfl h) (fun h=> absurd rfl h) h2
   · intro hq _ w' h3
     have hg0:getT 0 x k=none:=by simp [getT,hq]
     have hp0:removeT o 0 x k=x:=by simp [removeT,hq]
     rw [hg0,hp0]
     refine ⟨rfl,?_⟩
     have h4:=St.shutNT (es:=x.es) (cs:=x.cs) (ks:=ks) (vs:=vs) (ps:=.slice pa 0 pc) hl (St.emp.1 (St_re (L:=[_,_,_,_,_,_,_]) h3 [6,0,1,2,4,5,3] [] (by kernel_rfl)))
     rw [T.eta] at h4
     exact h4
   · intro hq _ w' ks' vs' h3
     rw [hg hq,show removeT o 0 x k=.node (x.es.eraseIdx (posK x.es k)) x.cs by simp [removeT,hq]]
     refine ⟨rfl,St.shutNT (ks:=ks') (vs:=vs') (ps:=.slice pa 0 pc) hl ?_⟩
     rw [show keysV (x.es.eraseIdx (posK x.es k))=(keysV x.es).eraseIdx (posK x.es k) from map_eraseIdx' _ _ _,show valsV (x.es.eraseIdx (posK x.es k))=(valsV x.es).eraseIdx (posK x.es k) from map_eraseIdx' _ _ _]
     exact St.emp.1 (St_re (L:=[_,_,_,_,_,_,_]) h3 [6,0,1,2,4,5,3] [] (by kernel_rfl))
  | succ h=>
   obtain ⟨b1,b2,b3,b4⟩:=hb
   obtain ⟨lo1,lo2⟩:=least_two ho
   have hpos:=hp (by omega)
   obtain ⟨c,hc⟩:∃c,x.cs[posK x.es k]? =some c:=⟨_,List.getElem?_eq_getElem (by omega)⟩
   have hcb:=b4 c (List.mem_of_getElem? hc)
   have hac:=asc_kid1 b3 hc ha
   have hokc:=hok.kid b3 hc
   have hcp:0 < c.es.length:=by have:=hcb.lo;omega
   obtain ⟨Lm,m,hm,hmL⟩:=max_spec ho hcb hcp
   have hmok:m.1.ok β:=hokc m (by rw [hmL];simp)
   obtain ⟨ks,vs,ps,bs,cb,hl,hbi,h1⟩:=hS.viewT _ hc
   obtain ⟨_,q⟩:=h1.has 3 rfl
   obtain ⟨pa,pc,rfl,_⟩:=sl_get q
   rw [List.length_map] at h1
   have hn0:bs.length≠0:=by omega
   have h2:=St_re (L:=[_,_,_,_,_,_,_]) h1 [6,0,1,2,3,5,4] [] (by kernel_rfl)
   obtain ⟨c',hc'⟩:∃c',(if hasK x.es k=true then removeT o h c m.1 else removeT o h c k)=c':=⟨_,rfl⟩
   obtain ⟨es',hes'⟩:∃es',(if hasK x.es k=true then x.es.set (posK x.es k) m else x.es)=es':=⟨_,rfl⟩
   have hc1:hasK x.es k=true→removeT o h c m.1=c':=fun hq=> by rw [←hc',if_pos hq]
   have hc0:hasK x.es k=false→removeT o h c k=c':=fun hq=> by rw [←hc',if_neg (by rw [hq];simp)]
   have he1:hasK x.es k=true→es'=x.es.set (posK x.es k) m:=fun hq=> by rw [←hes',if_pos hq]
   have he0:hasK x.es k=false→es'=x.es:=fun hq=> by rw [←hes',if_neg (by rw [hq];simp)]
   have hel:es'.length=x.es.length:=by rw [←hes'];split <;> simp
   have hcb':Body o h (least o - 1) (o - 1) c':=by
    rw [←hc']
    split
    · exact (removeT_spec ho h _ c m.1 hcb (fun _=> hcp) hac).1
    · exact (removeT_spec ho h _ c k hcb (fun _=> hcp) hac).1
   have hrm:removeT o (h+1) x k=if c'.es.length < least o then fillT o (posK x.es k) (.node es' (x.cs.set (posK x.es k) c')) else .node es' (x.cs.set (posK x.es k) c'):=by
    rw [removeT,hc]
    cases hh:hasK x.es k with
    | true=> rw [←hc1 hh,he1 hh];simp only [if_true,hm]
    | false=> rw [←hc0 hh,he0 hh];simp
   have hg1:hasK x.es k=false→getT (h+1) x k=getT h c k:=fun hq=> by simp [getT,hq,hc]
   refine remove_flat β tb o nb (posK x.es k) bs.length pc cb c'.es.length r nn ks vs (encK k) (encV y.2) (encK m.1) (encV m.2) (encV ((getT h c k).getD (va0 β))) (encV ((getT h c m.1).getD (va0 β))) (encV ((getT (h+1) x k).getD (va0 β))) (hasK x.es k) (getT h c k).isSome (getT h c m.1).isSome (getT (h+1) x k).isSome pa (keysV x.es) (valsV x.es) (keysV es') (valsV es') (bs.map ptrV) (treeA β h c cb) (treeA β h c' cb) _ (treeA β (h+1) (removeT o (h+1) x k) nb) ho ho' (by rw [keysV_length];exact hpk) (by rw [keysV_length,valsV_length]) (by rw [keysV_length];exact hlen) (keysV_one _) (valsV_one _) (encK_one _) (encV_one _) (by rw [List.length_map])
    (fun w fp fp' hbk hkk'=> find_calls nb ks vs _ x.es k hok.es hkk w hbk ⟨_,hkk'⟩ hae hlen) hyv (fun _=> by rw [List.getElem?_map,hbi];rfl)
    (fun _ _ w0 fp0 R w hs=> (max_calls ho ho' c cb w0 w fp0 R hcb hcp hs).mono fun e w' ⟨⟨m',e1,e2⟩,e3⟩=> ?_)
    (fun hq _ w0 fp0 R w hs=> ?_) (fun hq _ w0 fp0 R w hs=> ?_)
    (fun _ w f hf=> by obtain ⟨ka,kc,_,_,e,_⟩:=tree_lookT hf;exact ⟨ka,kc,e⟩)
    (fun hq _=> by rw [he1 hq];exact (set_map _ _ _ _).symm) (fun hq _=> by rw [he0 hq]) (fun hq _=> by rw [he1 hq];exact (set_map _ _ _ _).symm) (fun hq _=> by rw [he0 hq])
    (fun hq _=> by rw [hg hq];exact ⟨rfl,rfl⟩) (fun hq _=> by rw [hg1 hq];exact ⟨rfl,rfl⟩)
    (fun _ hlt w0 fp0 R w hs=> ?_) _ w0 w fp0 R (fun _ h=> absurd h hn0) (fun _ h=> absurd h hn0) ?_ ?_ h2
   · rw [hm] at e1
     obtain rfl:=Option.some.inj e1
     exact ⟨e2,e3⟩
   · rw [←hc1 hq]
     exact remove_calls ho ho' tb r nn h (least o) c cb m.1 w0 w fp0 R hmok hcb (fun _=> hcp) hac hokc hs
   · rw [←hc0 hq]
     exact remove_calls ho ho' tb r nn h (least o) c cb k w0 w fp0 R hkk hcb (fun _=> hcp) hac hokc hs
   · rw [hrm,if_pos hlt]
     have hsh:Short o h (posK x.es k) (.node es' (x.cs.set (posK x.es k) c')):=by
      refine ⟨?_,?_,?_,fun d hd=> ?_,fun j d hj hd=> ?_⟩
      · rw [cs_node,es_node,List.length_set,hel,b3]
      · rw [es_node,hel];exact hpos
      · rw [cs_node,List.length_set];omega
      · rw [cs_node,List.getElem?_set_self (by omega)] at hd
        obtain rfl:=Option.some.inj hd
        exact ⟨hcb',by have:=hcb'.lo;omega⟩
      · rw [cs_node,List.getElem?_set_ne (fun e=> hj e.symm)] at hd
        exact b4 d (List.mem_of_getElem? hd)
     refine fill_calls ho ho' tb r nn nb w0 w fp0 R hsh (by rw [es_node,hel];exact b2) (St.unviewT hl hbi (St_re (L:=[_,_,_,_,_,_,_]) hs [0,1,2,3,5,4,6] [] (by kernel_rfl)))
   · intro _ hlt w' h3
     rw [hrm,if_neg hlt]
     exact ⟨rfl,St.unviewT hl hbi (St_re (L:=[_,_,_,_,_,_,_]) h3 [0,1,2,3,5,4,6] [] (by kernel_rfl))⟩
   · intro _ hlt w' h3
     exact ⟨rfl,h3⟩
end Go.Proofs.YtpdlkdoogojboaaGreat
/- Put, over both trees. -/
namespace Go.Proofs.YtpdlkdoogojboaaGreat
open Go Go.RowKit
set_option maxRecDepth 100000
theorem entPp (β:Bool):Tryz.prog.funcs[fPut β]? =some (BPut β)∧(BPut β).body=some (bodyC (BPut β))∧(BPut β).ntmps=61:=by cases β <;> exact ⟨kr (by kernel_rfl),kr (by kernel_rfl),kr (by kernel_rfl)⟩
noncomputable def gPp0 (β:Bool)  :=rg Tryz.prog (BPut β) 0 61 [(6,2)] [] (Vq 0 6 [Kv (encV (va0 β)),Kv (.bool false)]) []
theorem obPp0 (β:Bool)   (w0:World) (fp0:List Nat) (R:List Asn):(gPp0 β  w0 fp0 R).Ok 2:=by
 cases β <;> exact Rg.ok _ 2 [] trivial
theorem cdPp0 (β:Bool):IsSq (BPut β) [] 0:=by cases β <;> exact isq (by kernel_rfl)
noncomputable def gPp1 (β:Bool) (tb o rb n:Nat) (kk vv ov:Value) (was:Bool) (T0 T1:Asn):=rg Tryz.prog (BPut β) 1 61 [(11,8),(10,1),(19,2),(8,2)] [(0,pV tb 0),(1,kk),(2,vv)] (Vq 0 11 [Kp tb 0,Kp tb 0,Kp tb 0,Kp tb 0,Kp rb 0,Kv kk,Kv vv,Kv (.tuple #[ov, .bool was])]++Vq 8 10 [Kv (.tuple #[ov, .bool was])]++Vq 9 19 [Kv ov,Kv (.bool was)]++Vq 11 8 [Kv ov,Kv (.bool was)]) [.gen [7] [] fun L _g=> match L 7 with | true=> T1 | false=> T0,Bk tb (tT β) [pV rb 0,nV o,nV n]]
theorem obPp1 (β:Bool) (tb o rb n:Nat) (kk vv ov:Value) (was:Bool) (T0 T1:Asn) (hrec:∀(w0:World) (fp0:List Nat) (R:List Asn) (w:World),St w0 fp0 ([T0,blkA tb (tT β) #[.pointer (some ⟨rb,0,none⟩), .int .i64 o, .int .i64 n]]++R) w→Calls Tryz.prog (fIns0 β) #[ptrV tb,ptrV rb,kk,vv] w fun e w'=> e=.returned (.tuple #[ov, .bool was])∧St w0 fp0 ([T1,blkA tb (tT β) #[.pointer (some ⟨rb,0,none⟩), .int .i64 o, .int .i64 n]]++R) w') (w0:World) (fp0:List Nat) (R:List Asn):(gPp1 β tb o rb n kk vv ov was T0 T1 w0 fp0 R).Ok 13:=by
 cases β <;> exact Rg.ok _ 13 [4,7] ⟨.load _ 4 1 0, .callF _ 7 _ _ (hrec _ _ _),trivial⟩
theorem cdPp1 (β:Bool):IsSq (BPut β) [1] 1:=by cases β <;> exact isq (by kernel_rfl)
theorem sqPp0 (β:Bool):Sq (BPut β) [1,1]:=by cases β <;> exact isQ (by kernel_rfl)
noncomputable def gPp2 (β:Bool) (tb o rb n m:Nat) (T1:Asn):=rg Tryz.prog (BPut β) 2 61 [(21,13)] [(0,pV tb 0)] (Vq 0 21 [Kp tb 0,Kp tb 0,Kp tb 0,Kp rb 0,Kp rb 0,Kp rb 0,Fv [27] fun g=> .slice (sa (g 27)) m (sc (g 27)),Kn m,Kp tb 0,Kp tb 0,Kp tb 1,Kn o,Kv (.bool (decide (o≤m)))]) [.all (T1),Bk tb (tT β) [pV rb 0,nV o,nV n]]
theorem obPp2 (β:Bool) (tb o rb n m:Nat) (T1:Asn) (hlook:∀w f,T1.p w f→∃ka kc,w.cell? ⟨rb,0,none⟩=some (.slice ka m kc)) (w0:World) (fp0:List Nat) (R:List Asn):(gPp2 β tb o rb n m T1 w0 fp0 R).Ok 13:=by
 cases β <;> exact Rg.ok _ 13 [3,6,11,12] ⟨.load _ 3 1 0, .loadBy _ 6 0 (fun w f h=> let ⟨_,_,e⟩:=hlook w f h;⟨_,e,fun _=> rfl⟩), .load _ 11 1 1, .geq _ 12 m o,trivial⟩
theorem cdPp2 (β:Bool):IsSq (BPut β) [1,1,0] 2:=by cases β <;> exact isq (by kernel_rfl)
theorem ccPp33 (β:Bool):isCond (csnd (cfst (csnd (csnd (bodyC (BPut β))))))=true∧ccond (csnd (cfst (csnd (csnd (bodyC (BPut β))))))=.tmp 33:=by cases β <;> exact ⟨kr (by kernel_rfl),kr (by kernel_rfl)⟩
noncomputable def gPp3 (β:Bool) (tb o rb n:Nat):=rg Tryz.prog (BPut β) 3 61 [(34,10)] [(0,pV tb 0)] (Vq 0 34 [Kp tb 0,Kp tb 0,Kp tb 0,Kp tb 0,Kp rb 0,Vf.box,Fv [39] fun g=> .agg #[.slice none 0 0, .slice none 0 0, .slice (some ⟨pb (g 39),0,none⟩) 1 1],Vf.ptr,Kp tb 0,Kp tb 0]) [.new 7 [41,39] fun g=> atA (tN β) (g 41) #[.slice none 0 0, .slice none 0 0, .slice (some ⟨pb (g 39),0,none⟩) 1 1], .new 5 [39] fun g=> boxA (tP β) (g 39) (.pointer (some ⟨rb,0,none⟩)), .blk tb (tT β) [⟨pV rb 0,[(10, .s 41)]⟩,⟨nV o,[]⟩,⟨nV n,[]⟩]]
theorem obPp3 (β:Bool) (tb o rb n:Nat)  (w0:World) (fp0:List Nat) (R:List Asn):(gPp3 β tb o rb n w0 fp0 R).Ok 11:=by
 cases β <;> exact Rg.ok _ 11 [4,5,7,10] ⟨.load _ 4 2 0, .box _ 5 1 rfl, .lay _ 7 0, .store _ 10 2 0,trivial⟩
theorem cdPp3 (β:Bool):IsSq (BPut β) [1,1,0,1,2] 3:=by cases β <;> exact isq (by kernel_rfl)
noncomputable def gPp4 (β:Bool) (tb o nr n:Nat) (X0 X1 X2 X3:Asn):=rg Tryz.prog (BPut β) 4 61 [(44,6)] [(0,pV tb 0)] (Vq 0 44 [Kp tb 0,Kp tb 0,Kp tb 0,Kp tb 0,Kp nr 0,Kv (.tuple #[])]) [.gen [5] [] fun L _g=> match L 5 with | true=> X3 | false=> X0, .gen [5] [] fun L _g=> match L 5 with | true=> emp | false=> X1, .gen [5] [] fun L _g=> match L 5 with | true=> emp | false=> X2,Bk tb (tT β) [pV nr 0,nV o,nV n]]
theorem obPp4 (β:Bool) (tb o nr n:Nat) (X0 X1 X2 X3:Asn) (hs:∀(w0:World) (fp0:List Nat) (R:List Asn) (w:World),St w0 fp0 ([X0,X1,X2,blkA tb (tT β) #[.pointer (some ⟨nr,0,none⟩), .int .i64 o, .int .i64 n]]++R) w→Calls Tryz.prog (fSplit β) #[ptrV tb,ptrV nr, .int .i64 0] w fun e w'=> e=.returned (.tuple #[])∧St w0 fp0 ([X3,emp,emp,blkA tb (tT β) #[.pointer (some ⟨nr,0,none⟩), .int .i64 o, .int .i64 n]]++R) w') (w0:World) (fp0:List Nat) (R:List Asn):(gPp4 β tb o nr n X0 X1 X2 X3 w0 fp0 R).Ok 6:=by
 cases β <;> exact Rg.ok _ 6 [4,5] ⟨.load _ 4 3 0, .callF _ 5 _ _ (hs _ _ _),trivial⟩
theorem cdPp4 (β:Bool):IsRg (BPut β) [1,1,0,1,2,1] 4:=by cases β <;> exact irg (by kernel_rfl)
theorem isSkipPp1 (β:Bool):isSkip (celse (csnd (cfst (csnd (csnd (bodyC (BPut β)))))))=true:=by cases β <;> exact kr (by kernel_rfl)
theorem sqPp2 (β:Bool):Sq (BPut β) [1,1,1]:=by cases β <;> exact isQ (by kernel_rfl)
noncomputable def gPp5 (β:Bool) (was:Bool):=rg Tryz.prog (BPut β) 5 61 [(50,2)] [(9, .bool was)] (Vq 0 50 [Kv (.bool was),Kv (.bool (!was))]) []
theorem obPp5 (β:Bool) (was:Bool)  (w0:World) (fp0:List Nat) (R:List Asn):(gPp5 β was w0 fp0 R).Ok 2:=by
 cases β <;> exact Rg.ok _ 2 [] trivial
theorem cdPp5 (β:Bool):IsSq (BPut β) [1,1,1,0] 5:=by cases β <;> exact isq (by kernel_rfl)
theorem ccPp51 (β:Bool):isCond (csnd (cfst (csnd (csnd (csnd (bodyC (BPut β)))))))=true∧ccond (csnd (cfst (csnd (csnd (csnd (bodyC (BPut β)))))))=.tmp 51:=by cases β <;> exact ⟨kr (by kernel_rfl),kr (by kernel_rfl)⟩
noncomputable def gPp6 (β:Bool) (tb o rb2 n:Nat):=rg Tryz.prog (BPut β) 6 61 [(52,7)] [(0,pV tb 0)] (Vq 0 52 [Kp tb 0,Kp tb 0,Kp tb 2,Kn n,Kn (n+1),Kp tb 0,Kp tb 2]) [.blk tb (tT β) [⟨pV rb2 0,[]⟩,⟨nV o,[]⟩,⟨nV n,[(7, .v (nV (n+1)))]⟩]]
theorem obPp6 (β:Bool) (tb o rb2 n:Nat) (hn:n < 1099511627776) (w0:World) (fp0:List Nat) (R:List Asn):(gPp6 β tb o rb2 n w0 fp0 R).Ok 8:=by
 cases β <;> exact Rg.ok _ 8 [3,4,7] ⟨.load _ 3 0 2, .add _ 4 (n) (1) ((n+1:Nat):Int), .storeV _ 7 0 2,trivial⟩
theorem cdPp6 (β:Bool):IsRg (BPut β) [1,1,1,0,1,2] 6:=by cases β <;> exact irg (by kernel_rfl)
theorem isSkipPp3 (β:Bool):isSkip (celse (csnd (cfst (csnd (csnd (csnd (bodyC (BPut β))))))))=true:=by cases β <;> exact kr (by kernel_rfl)
noncomputable def gPp7 (β:Bool) (ov:Value) (was:Bool):=rg Tryz.prog (BPut β) 7 61 [(59,2),(6,2)] [(8,ov),(9, .bool was)] (Vq 0 59 [Kv ov,Kv (.bool was)]++Vq 2 6 [Kv ov,Kv (.bool was)]) []
theorem obPp7 (β:Bool) (ov:Value) (was:Bool)  (w0:World) (fp0:List Nat) (R:List Asn):(gPp7 β ov was w0 fp0 R).Ok 4:=by
 cases β <;> exact Rg.ok _ 4 [] trivial
theorem cdPp7 (β:Bool):IsSq (BPut β) [1,1,1,1] 7:=by cases β <;> exact isq (by kernel_rfl)
theorem isRetPp4 (β:Bool):isRet (csnd (csnd (csnd (csnd (csnd (bodyC (BPut β)))))))=true:=by cases β <;> exact kr (by kernel_rfl)
theorem resPp (β:Bool):(BPut β).results=#[.tmp 6, .tmp 7]:=by cases β <;> exact kr (by kernel_rfl)
set_option maxHeartbeats 4000000 in
theorem Put_flat (β:Bool) (tb o rb m n:Nat) (kk vv ov:Value) (was:Bool) (T0 T1:Asn) (TF:Nat→Asn) (hn:n < 1099511627776)
 (hrec:∀(w0:World) (fp0:List Nat) (R:List Asn) (w:World),St w0 fp0 ([T0,blkA tb (tT β) #[.pointer (some ⟨rb,0,none⟩), .int .i64 o, .int .i64 n]]++R) w→Calls Tryz.prog (fIns0 β) #[ptrV tb,ptrV rb,kk,vv] w fun e w'=> e=.returned (.tuple #[ov, .bool was])∧St w0 fp0 ([T1,blkA tb (tT β) #[.pointer (some ⟨rb,0,none⟩), .int .i64 o, .int .i64 n]]++R) w')
 (hlook:∀w f,T1.p w f→∃ka kc,w.cell? ⟨rb,0,none⟩=some (.slice ka m kc))
 (hsplit:o≤m→∀(nr gx:Nat) (w0:World) (fp0:List Nat) (R:List Asn) (w:World),St w0 fp0 ([blkA nr (tN β) #[.slice none 0 0, .slice none 0 0, .slice (some ⟨gx,0,none⟩) 1 1],boxA (tP β) (.slice (some ⟨gx,0,none⟩) 1 1) (.pointer (some ⟨rb,0,none⟩)),T1,blkA tb (tT β) #[.pointer (some ⟨nr,0,none⟩), .int .i64 o, .int .i64 n]]++R) w→Calls Tryz.prog (fSplit β) #[ptrV tb,ptrV nr, .int .i64 0] w fun e w'=> e=.returned (.tuple #[])∧St w0 fp0 ([TF nr,blkA tb (tT β) #[.pointer (some ⟨nr,0,none⟩), .int .i64 o, .int .i64 n]]++R) w')
 (Rr:Ending→World→Prop) (w0 w:World) (fp0:List Nat) (R:List Asn)
 (hP:∀(X:Asn) (rb2:Nat) (w':World),(m < o∧X=T1∧rb2=rb∨o≤m∧X=TF rb2)→St w0 fp0 ([X,blkA tb (tT β) #[.pointer (some ⟨rb2,0,none⟩), .int .i64 o, .int .i64 ((if was then n else n+1:Nat):Int)]]++R) w'→Rr (.returned (.tuple #[ov, .bool was])) w')
 (hS:St w0 fp0 ([T0,blkA tb (tT β) #[pV rb 0,nV o,nV n]]++R) w):Calls Tryz.prog (fPut β) #[ptrV tb,kk,vv] w Rr:=by
 refine calls_T [(0,pV tb 0),(1,kk),(2,vv)] (entPp β) (by simp) (by kernel_rfl) fun A0 K0=> ?_
 refine wp_seqT (cdPp0 β).sq ?_
 refine wp_regT (obPp0 β   _ _ _) (by kernel_rfl) (cdPp0 β).cd (K0.sub (by kernel_rfl)) (St_re hS [] [0,1] (by kernel_rfl)) fun A1 w1 N1 H1=> ?_
 have S1:St w0 fp0 ([T0,blkA tb (tT β) #[pV rb 0,nV o,nV n]]++R) w1:=H1
 have K1:Knows 61 A1 [(0,pV tb 0),(1,kk),(2,vv),(6,encV (va0 β)),(7, .bool false)]:=N1.knows K0 (by kernel_rfl)
 refine wp_seqT (cdPp1 β).sq ?_
 refine wp_regT (obPp1 β tb o rb n kk vv ov was T0 T1 hrec _ _ _) (by kernel_rfl) (cdPp1 β).cd (K1.sub (by kernel_rfl)) (St_re S1 [0,1] [] (by kernel_rfl)) fun A2 w2 N2 H2=> ?_
 have S2:St w0 fp0 ([T1,blkA tb (tT β) #[pV rb 0,nV o,nV n]]++R) w2:=H2
 have K2:Knows 61 A2 [(0,pV tb 0),(1,kk),(2,vv),(6,encV (va0 β)),(7, .bool false),(8,ov),(9, .bool was)]:=N2.knows K1 (by kernel_rfl)
 refine wp_seqJ (sqPp0 β) (fun A w=> ∃(X:Asn) (rb2:Nat) (hx:m < o∧X=T1∧rb2=rb∨o≤m∧X=TF rb2),Knows 61 A [(0,pV tb 0),(8,ov),(9, .bool was)]∧St w0 fp0 ([X,blkA tb (tT β) #[pV rb2 0,nV o,nV n]]++R) w) ?_ ?_
 · skip
   refine wp_seqT (cdPp2 β).sq ?_
   refine wp_regT (obPp2 β tb o rb n m T1 hlook _ _ _) (by kernel_rfl) (cdPp2 β).cd (K2.sub (by kernel_rfl)) (St_re S2 [0,1] [] (by kernel_rfl)) fun A3 w3 N3 H3=> ?_
   have S3:St w0 fp0 ([T1,blkA tb (tT β) #[pV rb 0,nV o,nV n]]++R) w3:=H3
   have K3:Knows 61 A3 [(0,pV tb 0),(1,kk),(2,vv),(6,encV (va0 β)),(7, .bool false),(8,ov),(9, .bool was),(33, .bool (decide (o≤m)))]:=N3.knows K2 (by kernel_rfl)
   refine wp_condK (ccPp33 β) K3 (by rfl) (fun hq=> ?_) (fun hq=> ?_)
   · skip
     have hom:o≤m:=by simpa using hq
     refine wp_seqT (cdPp3 β).sq ?_
     refine wp_regT (obPp3 β tb o rb n  _ _ _) (by kernel_rfl) (cdPp3 β).cd (K3.sub (by kernel_rfl)) (St.emp.2 (St.emp.2 (St_re S3 [1] [0] (by kernel_rfl)))) fun A4 w4 N4 H4=> ?_
     have S4:St w0 fp0 ([atA (tN β) (slots A4 41) #[.slice none 0 0, .slice none 0 0, .slice (some ⟨pb (slots A4 39),0,none⟩) 1 1],boxA (tP β) (slots A4 39) (.pointer (some ⟨rb,0,none⟩)),blkA tb (tT β) #[slots A4 41,nV o,nV n],T1]++R) w4:=H4
     have K4:Knows 61 A4 [(0,pV tb 0),(1,kk),(2,vv),(6,encV (va0 β)),(7, .bool false),(8,ov),(9, .bool was),(33, .bool (decide (o≤m)))]:=N4.knows K3 (by kernel_rfl)
     obtain ⟨gx,e39⟩:∃n,slots A4 39=.slice (some ⟨n,0,none⟩) 1 1:=⟨_,N4.val 5 rfl⟩
     rw [e39] at S4
     obtain ⟨nr,e41,S4⟩:=St.at_open S4
     have S4:St w0 fp0 ([blkA nr (tN β) #[.slice none 0 0, .slice none 0 0, .slice (some ⟨gx,0,none⟩) 1 1],boxA (tP β) (.slice (some ⟨gx,0,none⟩) 1 1) (.pointer (some ⟨rb,0,none⟩)),T1,blkA tb (tT β) #[.pointer (some ⟨nr,0,none⟩), .int .i64 o, .int .i64 n]]++R) w4:=by rw [e41] at S4;exact St_re (L:=[_,_,_,_]) S4 [0,1,3,2] [] (by kernel_rfl)
     refine wp_regT (obPp4 β tb o nr n _ _ _ (TF nr) (fun w0 fp0 R w h=> (hsplit hom nr gx w0 fp0 R w h).mono fun e w' ⟨h1,h2⟩=> ⟨h1,St_re (L:=[_,_,_,_]) (St.emp.2 (St.emp.2 h2)) [2,0,1,3] [] (by kernel_rfl)⟩) _ _ _) (by kernel_rfl) (cdPp4 β).cd (K4.sub (by kernel_rfl)) (St_re S4 [0,1,2,3] [] (by kernel_rfl)) fun A5 w5 N5 H5=> ?_
     have S5:St w0 fp0 ([TF nr,emp,emp,blkA tb (tT β) #[pV nr 0,nV o,nV n]]++R) w5:=H5
     have K5:Knows 61 A5 [(0,pV tb 0),(1,kk),(2,vv),(6,encV (va0 β)),(7, .bool false),(8,ov),(9, .bool was),(33, .bool (decide (o≤m)))]:=N5.knows K4 (by kernel_rfl)
     exact ⟨TF nr,nr, .inr ⟨hom,rfl⟩,K5.sub (by kernel_rfl),St_re (L:=[_,_]) (St.emp.1 (St.emp.1 (St_re (L:=[_,_,_,_]) S5 [1,2,0,3] [] (by kernel_rfl)))) [0,1] [] (by kernel_rfl)⟩
   · skip
     refine wp_skipT (isSkipPp1 β) ?_
     exact ⟨T1,rb, .inl ⟨by simpa using hq,rfl,rfl⟩,K3.sub (by kernel_rfl),(St_re S3 [0,1] [] (by kernel_rfl))⟩
 · rintro A6 w6 ⟨X,rb2,hx,K6,S6⟩
   refine wp_seqJ (sqPp2 β) (fun A w=> ∃(n2:Nat) (hn2:n2=if was then n else n+1),Knows 61 A [(8,ov),(9, .bool was)]∧St w0 fp0 ([X,blkA tb (tT β) #[pV rb2 0,nV o,nV n2]]++R) w) ?_ ?_
   · skip
     refine wp_seqT (cdPp5 β).sq ?_
     refine wp_regT (obPp5 β was  _ _ _) (by kernel_rfl) (cdPp5 β).cd (K6.sub (by kernel_rfl)) (St_re S6 [] [0,1] (by kernel_rfl)) fun A7 w7 N7 H7=> ?_
     have S7:St w0 fp0 ([X,blkA tb (tT β) #[pV rb2 0,nV o,nV n]]++R) w7:=H7
     have K7:Knows 61 A7 [(0,pV tb 0),(8,ov),(9, .bool was),(51, .bool (!was))]:=N7.knows K6 (by kernel_rfl)
     refine wp_condK (ccPp51 β) K7 (by rfl) (fun hq=> ?_) (fun hq=> ?_)
     · skip
       refine wp_regT (obPp6 β tb o rb2 n hn _ _ _) (by kernel_rfl) (cdPp6 β).cd (K7.sub (by kernel_rfl)) (St_re S7 [1] [0] (by kernel_rfl)) fun A8 w8 N8 H8=> ?_
       have S8:St w0 fp0 ([blkA tb (tT β) #[pV rb2 0,nV o,nV (n+1)],X]++R) w8:=H8
       have K8:Knows 61 A8 [(0,pV tb 0),(8,ov),(9, .bool was),(51, .bool (!was))]:=N8.knows K7 (by kernel_rfl)
       exact ⟨n+1,by simp at hq;simp [hq],K8.sub (by kernel_rfl),(St_re S8 [1,0] [] (by kernel_rfl))⟩
     · skip
       refine wp_skipT (isSkipPp3 β) ?_
       exact ⟨n,by simp at hq;simp [hq],K7.sub (by kernel_rfl),(St_re S7 [0,1] [] (by kernel_rfl))⟩
   · rintro A9 w9 ⟨n2,hn2,K9,S9⟩
     refine wp_seqT (cdPp7 β).sq ?_
     refine wp_regT (obPp7 β ov was  _ _ _) (by kernel_rfl) (cdPp7 β).cd (K9.sub (by kernel_rfl)) (St_re S9 [] [0,1] (by kernel_rfl)) fun A10 w10 N10 H10=> ?_
     have S10:St w0 fp0 ([X,blkA tb (tT β) #[pV rb2 0,nV o,nV n2]]++R) w10:=H10
     have K10:Knows 61 A10 [(8,ov),(9, .bool was),(6,ov),(7, .bool was)]:=N10.knows K9 (by kernel_rfl)
     refine wp_retT (isRetPp4 β) ?_
     refine post_T K10 (res2 (resPp β) K10 (by rfl) (by rfl)) ?_
     exact hP X rb2 _ hx (hn2 ▸ S10)
end Go.Proofs.YtpdlkdoogojboaaGreat
