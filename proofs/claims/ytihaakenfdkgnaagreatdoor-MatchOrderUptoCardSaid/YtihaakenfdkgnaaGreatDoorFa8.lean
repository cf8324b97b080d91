/-
  The closed facts of the row and of the card of MatchOrder, one by one. Own text, written by program.
-/
import Derived.Test.YtihaakenfdkgnaaGreatDoorRows
import Derived.Test.YtihaakenfdkgnaaGreatDoorCards
import Derived.JoinedOf
import Derived.SevenTiedAt
import Derived.KernelRfl
import Derived.Test.YtihaakenfdkgnaaGreatDoorPart27
set_option linter.all false
noncomputable section
namespace Go.Proofs.YtihaakenfdkgnaaGreatDoor.matchOrder
set_option maxRecDepth 100000
open Go.Exo
def clo:List Nat:=[3,4,12,25,47,48,71,122,123,126,176,246,177,247,339,173,245,69,112,169,113,79,131,132,179,180,133,181,174,124,175,125,49,72,73,127,128,121,129,26,40,50,18,41,27,28,51,74,75,52,76,77,130,178,14,36,64,65,107,156,234,324,325,338,336,326,105,84,139,106,388,332,397,443,474,398,444,434,435,445,457,482,515,484,517,453,452,454,475,505,526,506,507,494,521,508,476,509,527,533,534,302,375,431,461,462,463,486,238,331,109,337,389,439,469,470,471,330,328,108,166,167,243,391,393,392,394,395,440,236,396,441,472,497,498,522,499,500,523,501,502,524,241,503,504,525,473,442,329,390,327,235,237,157,158,159,239,333,334,160,161,240,335,162,163,164,242,165,63,102,103,154,155,233,232,322,323,386,300,373,387,436,464,487,488,465,489,518,490,491,520,532,451,478,479,316,511,512,480,481,513,514,528,529,519,492,437,466,493,467,495,438,468,496,104,13,29,30,31,53,78,95,34,80,83,138,81,134,182,248,183,184,249,142,203,279,280,282,281,70,115,114,170,116,117,171,244,119,172,120,43,118,283,285,284,369,340,357,406,365,447,407,250,342,341,399,251,343,344,259,355,345,347,346,400,348,402,401,446,252,350,349,403,253,254,352,351,404,255,257,258,256,354,353,405,260,356,358,359,360,361,408,409,410,411,362,363,364,135,137,185,187,267,266,188,189,136,261,186,263,264,265,262,190,191,192,268,290,269,366,412,448,456,483,516,530,531,277,368,416,450,417,418,419,455,420,413,449,477,510,414,415,82,54,55,85,86,140,87,88,89,141,193,270,218,194,271,149,272,274,212,195,153,273,196,275,197,198,211,288,370,421,385,422,199,200,276,367,378,379,201,202,278,90,93,145,207,287,286,208,209,231,319,320,321,210,213,289,227,315,371,423,424,458,425,381,382,426,459,460,485,427,428,429,430,214,291,92,216,292,215,220,217,219,221,222,223,293,294,224,295,230,318,372,296,297,298,299,301,374,303,376,432,304,377,305,306,32,56,58,94,57,91,143,204,205,144,206,10,22,44,33,59,97,148,96,146,225,147,226,307,308,380,309,310,383,384,433,311,312,313,314,98,61,62,100,151,152,150,229,228,317,101,60,99,7,20,19,42,67,68,111,168,35,15,37,5,16,6,17,38,39,66,110,9,11,23,45,24,46,8,21]
theorem clo_n:1+(Tryz.prog.funcs.toList.map fun g=>(Tryz.prog.leadsTo g).length+1).sum=1788:=by kernel_rfl
theorem clo_l:wH (Tryz.prog.funcs.toList.map Tryz.prog.leadsTo) 1788 3=clo:=by kernel_rfl
theorem wK:Tryz.prog.closure 3=clo:=wI clo_n clo_l
theorem ip_eq:Tryz.prog.inPlace 3=Rows.matchOrderUptoRow.inPlace:=wJ wK (by kernel_rfl)
theorem unf_eq:Tryz.prog.unfollowed 3=true:=pM (g:=63) wK (by kernel_rfl) (by kernel_rfl)
theorem vn_eq:Tryz.prog.varsNamed 3=Rows.matchOrderUptoRow.named:=rZ wK (by kernel_rfl)
theorem goes_no:Tryz.prog.funcs.toList.any Func.goes=false:=by kernel_rfl
theorem k_wf:Rows.matchOrderUptoRow.wf (OpenSpec.ofChange Rows.matchOrderSpec)=true:=by kernel_rfl
theorem lo_sz:Tryz.prog.types.size=565:=by kernel_rfl
theorem lo0:((List.range 95).all fun j=>rowFine Tryz.prog (0+j))=true:=by kernel_rfl
theorem lo1:((List.range 95).all fun j=>rowFine Tryz.prog (95+j))=true:=by kernel_rfl
theorem lo2:((List.range 95).all fun j=>rowFine Tryz.prog (190+j))=true:=by kernel_rfl
theorem lo3:((List.range 95).all fun j=>rowFine Tryz.prog (285+j))=true:=by kernel_rfl
theorem lo4:((List.range 95).all fun j=>rowFine Tryz.prog (380+j))=true:=by kernel_rfl
theorem lo5:((List.range 90).all fun j=>rowFine Tryz.prog (475+j))=true:=by kernel_rfl
theorem pW {a i w:Nat}(h:((List.range w).all fun j=>rowFine Tryz.prog (a+j))=true)(h1:a<=i)(h2:i<a+w):rowFine Tryz.prog i=true:=by
 have:=List.all_eq_true.1 h (i-a) (List.mem_range.2 (by omega));rwa [show a+(i-a)=i by omega] at this
theorem lo_all (i:Nat)(h:i<565):rowFine Tryz.prog i=true:=by
 by_cases h0:i<95
 ·exact pW lo0 (by omega) (by omega)
 by_cases h1:i<190
 ·exact pW lo1 (by omega) (by omega)
 by_cases h2:i<285
 ·exact pW lo2 (by omega) (by omega)
 by_cases h3:i<380
 ·exact pW lo3 (by omega) (by omega)
 by_cases h4:i<475
 ·exact pW lo4 (by omega) (by omega)
 exact pW lo5 (by omega) (by omega)
theorem k_laid:laidOutB Tryz.prog=true:=by
 unfold laidOutB;rw[Bool.and_eq_true,Bool.and_eq_true];refine⟨⟨?_,by kernel_rfl⟩,by kernel_rfl⟩;rw[lo_sz];exact List.all_eq_true.2 fun i hi=>lo_all i (List.mem_range.1 hi)
theorem k_maps:mapsRowed Tryz.prog=true:=by kernel_rfl
theorem k_read:Tryz.f3.params.all (Tryz.prog.readableRec ·)=true:=by kernel_rfl
theorem k_tie:namedTie Tryz.prog Rows.matchOrderUptoRow.named Rows.matchOrderSpec.vars=true:=by kernel_rfl
theorem zV:(Rows.matchOrderUptoRow.inPlace==Tryz.prog.inPlace 3)=true:=by rw[ip_eq];exact beq_self_eq_true _
theorem k_unf:(Rows.matchOrderUptoRow.unfollowed==Tryz.prog.unfollowed 3)=true:=by rw[unf_eq];rfl
theorem k_rec:(Rows.matchOrderUptoRow.recurses==Tryz.prog.recurses 3)=true:=by rw[uo unf_eq];rfl
theorem k_named:(Rows.matchOrderUptoRow.named==Tryz.prog.varsNamed 3)=true:=by rw[vn_eq];exact beq_self_eq_true _
theorem k_pk:(Rows.matchOrderUptoRow.plainKeys==Tryz.prog.plainKeys)=true:=by kernel_rfl
theorem k_sh:Tryz.prog.stopsHeard=true:=by kernel_rfl
theorem k_me:Tryz.prog.mayEnter=true:=by kernel_rfl
theorem k_lf:(Rows.matchOrderUptoRow.lifted==Tryz.prog.liftsFinal)=true:=by kernel_rfl
theorem k_mk:(Tryz.prog.make==some Rows.matchOrderUptoRow.make)=true:=by kernel_rfl
theorem k_stops:(Tryz.prog.stops==[])=true:=by kernel_rfl
theorem k_knobs:(Tryz.prog.stopKnobs==[])=true:=by kernel_rfl
theorem k_own:ownKnob Tryz.prog.godebug=none:=by kernel_rfl
theorem k_mainIs:Tryz.prog.mainIs=some (Rows.matchOrderUptoCard.stood.harness.1,Rows.matchOrderUptoCard.stood.harness.2.toList):=by kernel_rfl
theorem k_looks:true=Tryz.prog.looks []:=by kernel_rfl
theorem uq:Tryz.prog.funcNamed Rows.matchOrderUptoRow.func=some 3:=by kernel_rfl
theorem k_goes:false=Rows.matchOrderUptoRow.goesBy Tryz.prog:=(zU goes_no _ _).symm
theorem k_wft:Rows.matchOrderUptoRow.wfByText (Rows.OpenSpec.upto Rows.matchOrderSpec)=true:=by kernel_rfl
theorem k_inst:Tryz.f3.isInstance Tryz.prog Rows.matchOrderUptoRow.origin Rows.matchOrderUptoRow.targs:=of_decide_eq_true (by kernel_rfl)
theorem closed:joinedFacts Tryz.prog 3 Tryz.f3 Rows.matchOrderSpec Rows.matchOrderUptoRow=true:=by
 unfold joinedFacts;simp only[Bool.and_eq_true]
 repeat' apply And.intro
 ·exact k_wf
 ·exact k_laid
 ·exact k_maps
 ·exact k_read
 ·exact k_tie
 ·kernel_rfl
 ·exact k_stops
 ·kernel_rfl
 ·exact k_knobs
 ·exact zV
 ·exact k_unf
 ·exact k_rec
 ·exact k_named
 ·kernel_rfl
 ·kernel_rfl
 ·kernel_rfl
 ·kernel_rfl
 ·kernel_rfl
 ·kernel_rfl
 ·kernel_rfl
 ·kernel_rfl
 ·kernel_rfl
 ·exact k_pk
 ·kernel_rfl
 ·exact k_sh
 ·exact k_me
 ·exact k_lf
 ·exact k_mk
 ·kernel_rfl
 ·kernel_rfl
 ·kernel_rfl
 ·kernel_rfl
end Go.Proofs.YtihaakenfdkgnaaGreatDoor.matchOrder
end
